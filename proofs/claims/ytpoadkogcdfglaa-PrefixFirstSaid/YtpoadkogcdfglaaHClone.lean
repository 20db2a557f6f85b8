/- slices.Clone at []int. -/
import Derived.Test.YtpoadkogcdfglaaHBase
namespace Go.Proofs.Ytpoadkogcdfglaa.PH
open Go.RowKit Go.Proofs.YtpoadkogcdfglaaW.PrintWords
set_option linter.unusedVariables false
set_option linter.unusedSimpArgs false

theorem infoInt : (Try.prog.info? 3).map (fun i => (i.zero, i.size, i.bytes)) = some (some (.int .i64 0), 1, 8) := by kernel_rfl
theorem infoRow : (Try.prog.info? 24).map (fun i => (i.zero, i.size, i.bytes)) = some (some (.slice none 0 0), 1, 24) := by kernel_rfl
/-- A new row of its own comes back that reads as l. -/
def RetR {α : Type} (d : Kd α) (t : Nat) (w w' : World) (l : List α) (e : Ending) : Prop := ∃ A c, e = .returned (.slice A l.length c) ∧ d.R t w' w.heap.size (fun _ => True) (.slice A l.length c) l ∧ Below w.heap.size w w'
set_option maxHeartbeats 2000000 in
set_option maxRecDepth 100000 in
theorem slices_Clone_int (A : Option Addr) (c : Nat) (l : List Int) (w : World) (h : RS (Kd.int .i64) w A c l) (hl : l.length ≤ 4000000) :
    Calls Try.prog 35 #[.slice A l.length c] w fun e w' => RetR (Kd.int .i64) 3 w w' l e := by
  have q22 : ∀ (w : World) (a : Option Addr) (n c n' c' : Nat), (binOp .eql 24 (.slice a n c) (.slice none n' c')).run Try.prog w = .ok (.bool a.isNone) w := fun w a n c n' c' => Lib.run_eql_slice_nil w _ _ a n c n' c' Try.underlying24
  have HR := Aside0.mk h
  have HL := Aside0.mk hl
  clear h hl
  cases A with
  | none =>
    have he : l = [] := by
      cases l with
      | nil => rfl
      | cons x xs => obtain ⟨ad, h, _⟩ := HR.out.r.2.2 (by simp); cases h
    subst he
    go_enter Try.func35, Try.ntmps35
    go_wp2
    go_ret
    exact ⟨none, 0, rfl, Kd.R_nil _ _ _ _ _, Below.refl _ _⟩
  | some ad =>
    go_enter Try.func35, Try.ntmps35
    go_wp2_with (first | ((with_reducible refine gate_dst (N := 5) rfl ?_); refine Kd.R_lit (Kd.int .i64) _ 3 ?hg (N := 5) ?hd (xs := []) (inner := []) (ok := fun _ => True) (okp := fun _ => True) ?hr ?hp (fun _ hk => hk) trivial (Below.refl _ _) (Nat.le_refl _) (by simp) ?_; (case hd => rfl); (case hg => rfl); (case hr => first | (go_simp; done) | (go_simp; rfl)); (case hp => exact (Reps.none _ _)); intro v1 w1 ho1 hb1 hg1 hnew1; clear hg1 hnew1; have HO := Aside0.mk ho1; have HB := Aside0.mk hb1; clear ho1 hb1) | (at_builtin; refine Kd.R_append_row (Value.int .i64) (0 : Int) (h1 := fun _ => rfl) (w0 := w) w.heap.size rfl (.tmp 5) (.tmp 6) 24 3 (.int .i64 0) 8 rfl Try.underlying24 infoInt rfl (by omega) v1 [] l _ _ _ (fun _ => True) rfl rfl ?aF ?aO ?aR ?aB ?aS ?aL ?_; (case aR => exact (Kd.C_below HR.out.r HB.out)); (case aB => exact HB.out); (case aF => exact (fun _ _ => trivial)); (case aO => exact HO.out); (case aS => exact HB.out.size); (case aL => have := HL.out; simp; omega); intro v2 w2 ho hb hg hat))
    rw [List.nil_append] at ho
    obtain ⟨A2, c2, rfl, hc2, _⟩ := Kd.R_reads ho
    have HC2 := Aside0.mk ho
    have HB2 := Aside0.mk hb
    clear ho hb hg hat hc2
    go_ret
    exact ⟨A2, c2, rfl, HC2.out, HB2.out⟩
end Go.Proofs.Ytpoadkogcdfglaa.PH
