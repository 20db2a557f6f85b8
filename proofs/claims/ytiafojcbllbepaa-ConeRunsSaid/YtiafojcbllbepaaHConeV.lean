/- The function of cone.Of that visits a literal. -/
import Derived.Test.YtiafojcbllbepaaHConeP
import Derived.Test.YtiafojcbllbepaaHIdRef
import Derived.Test.YtiafojcbllbepaaHMap
import Derived.Great.Walk
namespace Go.Proofs.Ytiafojcbllbepaa.PH
open Go.RowKit Go.Proofs.YtiafojcbllbepaaW.PrintWords Go.Proofs.YtiafojcbllbepaaW.PrintLast
set_option linter.unusedVariables false
set_option linter.unusedSimpArgs false

/-- What cone.Of has while it visits: the row of what is seen (block B, told in block gS) and the row of work (told in block gT). -/
@[reducible] def visP (b gS gT B cap n : Nat) (s : List Bool × List Int) (v : Value) (ps : List Pc) : List Pc :=
  pB gS 59 #[.slice (some ⟨B, 0, none⟩) n cap] :: pB gT 24 #[v] :: pF b Kd.bool 4 (.slice (some ⟨B, 0, none⟩) n cap) s.1 :: pF b (Kd.int .i64) 3 v s.2 :: ps
/-- Nothing comes back; the rows are told. -/
def RetV (b gS gT B cap n : Nat) (s : List Bool × List Int) (ps : List Pc) (w0 w' : World) (e : Ending) : Prop := e = .returned (.tuple #[]) ∧ ∃ A c, Parts b w0 w' (visP b gS gT B cap n s (.slice A s.2.length c) ps)
theorem add0 (B k : Nat) : (⟨B, 0, none⟩ : Addr).add k = ⟨B, k, none⟩ := by unfold Addr.add; cases k <;> simp
set_option maxHeartbeats 4000000 in
set_option maxRecDepth 100000 in
theorem cone_visit (b gS gT B cap n : Nat) (s : List Bool × List Int) (A : Option Addr) (d : Nat) (l : Int) (ps : List Pc) (w0 w : World) (h : Parts b w0 w (visP b gS gT B cap n s (.slice A s.2.length d) ps)) (h0 : 0 ≤ l) (hl : l ≤ 3000) (hk : varOf l < n) (hm : n ≤ 3000) (hn : s.2.length ≤ 3000) :
    Calls Try.prog 31 #[.int .i64 l, .pointer (some ⟨gS, 0, none⟩), .pointer (some ⟨gT, 0, none⟩)] w fun e w' => RetV b gS gT B cap n (visitS s l) ps w0 w' e := by
  obtain ⟨seen, todo⟩ := s
  dsimp only at hk hm hn h
  obtain ⟨k, hkv⟩ : ∃ k : Nat, l / 2 = (k : Int) := ⟨(l / 2).toNat, by omega⟩
  have hvk : varOf l = k := by unfold varOf; omega
  have HV := Aside0.mk h
  have hw := half_of (x := l) ⟨by omega, by omega⟩ h0
  rw [hkv] at hw
  rw [hvk] at hk
  obtain ⟨cS, fS⟩ := h.cell 0 rfl 0 rfl
  obtain ⟨cT, fT⟩ := h.cell 1 rfl 0 rfl
  obtain ⟨cK, fK⟩ := h.cellRow 2 rfl false k hk
  generalize hR : visitS (seen, todo) l = r
  unfold visitS at hR
  rw [hvk, hkv] at hR
  have HR := Aside0.mk hR
  have HN := Aside0.mk hn
  clear hR h
  have hki : (k : Int) < (n : Int) := by omega
  by_cases h1 : 0 < k
  · have h1d : decide (0 < k) = true := decide_eq_true h1
    cases h2 : seen.getD k false with
    | true =>
      rw [h2] at cK
      have HQ := Aside0.mk (show r = (seen, todo) by rw [← HR.out, if_neg (by rw [h2]; simp)])
      clear h2
      go_enter Try.func31, Try.ntmps31
      go_wp2
      all_goals refine Go.Great.bodyPost_end0 rfl rfl ?_
      all_goals exact (show RetV b gS gT B cap n r ps w0 w _ from ⟨rfl, A, d, by rw [HQ.out]; exact HV.out⟩)
    | false =>
      rw [h2] at cK
      have HQ := Aside0.mk (show r = (seen.set k true, todo ++ [(k : Int)]) by rw [← HR.out, if_pos ⟨by omega, h2⟩])
      clear h2
      go_enter Try.func31, Try.ntmps31
      have HM := HV.out.putRow 2 rfl k true
      dsimp only [List.set] at HM
      have HM := Aside0.mk HM
      go_upto_region 3 with (fail)
      generalize w.setCell ⟨B, k, none⟩ (.bool true) = w5 at *
      obtain ⟨cS5, fS5⟩ := HM.out.cell 0 rfl 0 rfl
      obtain ⟨cT5, fT5⟩ := HM.out.cell 1 rfl 0 rfl
      go_wp2_with (first | (at_builtin; refine Parts.appendL HM.out 3 rfl flat_int rfl (.tmp 19) (.tmp 21) 24 (.int .i64 0) 8 rfl Try.underlying24 infoInt rfl (by decide) (by decide) (k : Int) [.int .i64 (k : Int)] rfl rfl rfl (by have := HN.out; omega) ?_; intro V cap2 w8 h8; have S8 := Aside0.mk h8; obtain ⟨cT8, fT8⟩ := h8.cell 1 rfl 0 rfl; clear h8))
      all_goals refine Go.Great.bodyPost_end0 rfl rfl ?_
      all_goals exact (show RetV b gS gT B cap n r ps w0 _ _ from ⟨rfl, V, cap2, by rw [HQ.out]; have h_ := S8.out.put 1 rfl 0 (.slice V (todo.length + 1) cap2) rfl; simp only [List.length_append, List.length_singleton]; exact h_⟩)
  · have h1d : decide (0 < k) = false := decide_eq_false h1
    have HQ := Aside0.mk (show r = (seen, todo) by rw [← HR.out, if_neg (by omega)])
    go_enter Try.func31, Try.ntmps31
    go_wp2
    all_goals refine Go.Great.bodyPost_end0 rfl rfl ?_
    all_goals exact (show RetV b gS gT B cap n r ps w0 w _ from ⟨rfl, A, d, by rw [HQ.out]; exact HV.out⟩)
end Go.Proofs.Ytiafojcbllbepaa.PH
