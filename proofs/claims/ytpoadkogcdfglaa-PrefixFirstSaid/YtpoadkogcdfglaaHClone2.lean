/- slices.Clone at rows of gates and of latches. -/
import Derived.Test.YtpoadkogcdfglaaHClone
namespace Go.Proofs.Ytpoadkogcdfglaa.PH
open Go.RowKit Go.Proofs.YtpoadkogcdfglaaW.PrintWords
set_option linter.unusedVariables false
set_option linter.unusedSimpArgs false

theorem info_gate : (Try.prog.info? 92).map (fun i => (i.zero, i.size, i.bytes)) = some (some (.agg #[.int .i64 0, .int .i64 0]), 2, 16) := by kernel_rfl
set_option maxHeartbeats 2000000 in
set_option maxRecDepth 100000 in
theorem slices_Clone_gate (A : Option Addr) (c : Nat) (l : List _) (w : World) (h : RS kGate w A c l) (hl : l.length ≤ 4000000) :
    Calls Try.prog 81 #[.slice A l.length c] w fun e w' => RetR kGate 92 w w' l e := by
  have q22 : ∀ (w : World) (a : Option Addr) (n c n' c' : Nat), (binOp .eql 23 (.slice a n c) (.slice none n' c')).run Try.prog w = .ok (.bool a.isNone) w := fun w a n c n' c' => Lib.run_eql_slice_nil w _ _ a n c n' c' Try.underlying23
  have HR := Aside0.mk h
  have HL := Aside0.mk hl
  clear h hl
  cases A with
  | none =>
    have he : l = [] := by
      cases l with
      | nil => rfl
      | cons x xs => obtain ⟨ad, h, _⟩ := HR.out.r.2.2 (by simp); cases h
    subst he
    go_enter Try.func81, Try.ntmps81
    go_wp2
    go_ret
    exact ⟨none, 0, rfl, Kd.R_nil _ _ _ _ _, Below.refl _ _⟩
  | some ad =>
    go_enter Try.func81, Try.ntmps81
    go_wp2_with (first | ((with_reducible refine gate_dst (N := 5) rfl ?_); refine Kd.R_lit kGate _ 92 ?hg (N := 5) ?hd (xs := []) (inner := []) (ok := fun _ => True) (okp := fun _ => True) ?hr ?hp (fun _ hk => hk) trivial (Below.refl _ _) (Nat.le_refl _) (by simp) ?_; (case hd => rfl); (case hg => rfl); (case hr => first | (go_simp; done) | (go_simp; rfl)); (case hp => exact (Reps.none _ _)); intro v1 w1 ho1 hb1 hg1 hnew1; clear hg1 hnew1; have HO := Aside0.mk ho1; have HB := Aside0.mk hb1; clear ho1 hb1) | (at_builtin; go_loud (refine Kd.R_append_rows kGate (w0 := w) w.heap.size rfl (.tmp 5) (.tmp 6) 23 92 (.agg #[.int .i64 0, .int .i64 0]) 16 rfl Try.underlying23 info_gate rfl (by decide) (by omega) v1 [] l _ _ _ (fun _ => True) (fun _ => False) rfl rfl ?aO ?aR (fun _ _ h => h) (fun _ h => h.elim) ?aF ?aB ?aS ?aL ?_); (case aR => exact (Kd.C_below HR.out.r HB.out)); (case aB => exact HB.out); (case aF => exact (fun _ _ => trivial)); (case aO => exact HO.out); (case aS => exact HB.out.size); (case aL => have := HL.out; simp; omega); intro v2 w2 ho hb hg hat))
    rw [List.nil_append] at ho
    obtain ⟨A2, c2, rfl, hc2, _⟩ := Kd.R_reads ho
    have HC2 := Aside0.mk ho
    have HB2 := Aside0.mk hb
    clear ho hb hg hat hc2
    go_ret
    exact ⟨A2, c2, rfl, HC2.out, HB2.out⟩
theorem info_latch : (Try.prog.info? 45).map (fun i => (i.zero, i.size, i.bytes)) = some (some (.agg #[.int .i64 0, .int .i64 0]), 2, 16) := by kernel_rfl
set_option maxHeartbeats 2000000 in
set_option maxRecDepth 100000 in
theorem slices_Clone_latch (A : Option Addr) (c : Nat) (l : List _) (w : World) (h : RS kLatch w A c l) (hl : l.length ≤ 4000000) :
    Calls Try.prog 34 #[.slice A l.length c] w fun e w' => RetR kLatch 45 w w' l e := by
  have q22 : ∀ (w : World) (a : Option Addr) (n c n' c' : Nat), (binOp .eql 22 (.slice a n c) (.slice none n' c')).run Try.prog w = .ok (.bool a.isNone) w := fun w a n c n' c' => Lib.run_eql_slice_nil w _ _ a n c n' c' Try.underlying22
  have HR := Aside0.mk h
  have HL := Aside0.mk hl
  clear h hl
  cases A with
  | none =>
    have he : l = [] := by
      cases l with
      | nil => rfl
      | cons x xs => obtain ⟨ad, h, _⟩ := HR.out.r.2.2 (by simp); cases h
    subst he
    go_enter Try.func34, Try.ntmps34
    go_wp2
    go_ret
    exact ⟨none, 0, rfl, Kd.R_nil _ _ _ _ _, Below.refl _ _⟩
  | some ad =>
    go_enter Try.func34, Try.ntmps34
    go_wp2_with (first | ((with_reducible refine gate_dst (N := 5) rfl ?_); refine Kd.R_lit kLatch _ 45 ?hg (N := 5) ?hd (xs := []) (inner := []) (ok := fun _ => True) (okp := fun _ => True) ?hr ?hp (fun _ hk => hk) trivial (Below.refl _ _) (Nat.le_refl _) (by simp) ?_; (case hd => rfl); (case hg => rfl); (case hr => first | (go_simp; done) | (go_simp; rfl)); (case hp => exact (Reps.none _ _)); intro v1 w1 ho1 hb1 hg1 hnew1; clear hg1 hnew1; have HO := Aside0.mk ho1; have HB := Aside0.mk hb1; clear ho1 hb1) | (at_builtin; go_loud (refine Kd.R_append_rows kLatch (w0 := w) w.heap.size rfl (.tmp 5) (.tmp 6) 22 45 (.agg #[.int .i64 0, .int .i64 0]) 16 rfl Try.underlying22 info_latch rfl (by decide) (by omega) v1 [] l _ _ _ (fun _ => True) (fun _ => False) rfl rfl ?aO ?aR (fun _ _ h => h) (fun _ h => h.elim) ?aF ?aB ?aS ?aL ?_); (case aR => exact (Kd.C_below HR.out.r HB.out)); (case aB => exact HB.out); (case aF => exact (fun _ _ => trivial)); (case aO => exact HO.out); (case aS => exact HB.out.size); (case aL => have := HL.out; simp; omega); intro v2 w2 ho hb hg hat))
    rw [List.nil_append] at ho
    obtain ⟨A2, c2, rfl, hc2, _⟩ := Kd.R_reads ho
    have HC2 := Aside0.mk ho
    have HB2 := Aside0.mk hb
    clear ho hb hg hat hc2
    go_ret
    exact ⟨A2, c2, rfl, HC2.out, HB2.out⟩
end Go.Proofs.Ytpoadkogcdfglaa.PH
