/- prefix.Of's closure: a row of inputs. -/
import Derived.Test.YtpoadkogcdfglaaHPfP
import Derived.Test.YtpoadkogcdfglaaHBegin
import Derived.Test.YtpoadkogcdfglaaHRowIn
import Derived.Great.Walk
namespace Go.Proofs.Ytpoadkogcdfglaa.PH
open Go.RowKit Go.Proofs.YtpoadkogcdfglaaW.PrintWords Go.Proofs.YtpoadkogcdfglaaW.PrintLast
set_option linter.unusedVariables false
set_option linter.unusedSimpArgs false

@[reducible] def fc5 (p : CP) (f : Circ) : Array Value := #[.int .i64 f.f0, .slice p.A1 f.f1.length p.c1, .slice p.A2 f.f2.length p.c2, .slice p.A3 f.f3.length p.c3, .slice p.A4 f.f4.length p.c4]
/-- The circuit that is copied, with rows of the builder's own. -/
@[reducible] def fcE (p : CP) (f : Circ) (v3 v4 : Value) : Array Value := #[.int .i64 f.f0, .slice p.A1 f.f1.length p.c1, .slice p.A2 f.f2.length p.c2, .slice p.A3 f.f3.length p.c3, .slice p.A4 f.f4.length p.c4, v3, v4]
/-- The lift with its lists of inputs, and the circuit's block. -/
@[reducible] def iPs (b gU gC : Nat) (a0 a1 v2 v4 v5 v6 : Value) (fc : Array Value) (vI : Option Addr × Nat) (hs : List HeadR) (rows : List (List Int)) : List Pc :=
  [pB gU 33 #[a0, a1, v2, .slice vI.1 hs.length vI.2, v4, v5, v6], pF b kHead 24 (.slice vI.1 hs.length vI.2) hs, pIn (Kd.int .i64) 3 b hs rows, pB gC 26 fc]
def IRet (b gU gC : Nat) (a0 a1 v2 v4 v5 v6 : Value) (fc : Array Value) (ps : List Pc) (w0 w' : World) (rows : List (List Int)) (e : Ending) : Prop :=
  e = .returned (.tuple #[]) ∧ ∃ vI hs, Parts b w0 w' (iPs b gU gC a0 a1 v2 v4 v5 v6 fc vI hs rows ++ ps)
theorem eg_inputs : ∀ args w, (callFunc 36 args).run Try.prog w = .ok (.enter 36 args) w := enters_fn Try.func36 (by kernel_rfl) rfl
set_option maxHeartbeats 4000000 in
set_option maxRecDepth 100000 in
theorem pf_inputs {gU gC : Nat} {a0 a1 v2 v4 v5 v6 : Value} {p : CP} {c : Circ} {vI : Option Addr × Nat} {hs : List HeadR} {rows : List (List Int)} {ps : List Pc} {w0 w : World} (S : Parts w0.heap.size w0 w (iPs w0.heap.size gU gC a0 a1 v2 v4 v5 v6 (fc5 p c) vI hs rows ++ ps))
    (hc : 0 ≤ c.f0 ∧ c.f0 ≤ 1000) {fr : Int} (hf : 0 ≤ fr ∧ fr ≤ 10000) (hh : rows.length ≤ 100) :
    Calls Try.prog 36 #[.int .i64 fr, .pointer (some ⟨gC, 0, none⟩), .pointer (some ⟨gU, 0, none⟩)] w fun e w' => IRet w0.heap.size gU gC a0 a1 v2 v4 v5 v6 (fc5 p c) ps w0 w' (rows ++ [bIns fr c.f0.toNat]) e := by
  have HF := Aside0.mk hf
  have HHL := Aside0.mk (show hs.length ≤ 100 by rw [S.inLen 2 rfl]; exact hh)
  have hu26 := Try.underlying26
  have hu33 := Try.underlying33
  obtain ⟨ni, hni⟩ : ∃ n : Nat, c.f0 = (n : Int) := ⟨c.f0.toNat, by omega⟩
  have HNI := Aside0.mk (show c.f0.toNat = ni ∧ ni ≤ 1000 by omega)
  have c0 : w.cell? ⟨gC, 0, none⟩ = some (.int .i64 (ni : Int)) := by rw [← hni]; exact (S.cell 3 rfl 0 rfl).1
  have S1 := Aside0.mk (S.nil (Kd.int .i64) 3)
  clear S hc hf hh hni
  go_enter Try.func36, Try.ntmps36
  go_wp2
  clear c0
  go_loopg [4, 8] ni (fun gg s4 s8 wr => ∃ (i : Nat) (V : Option Addr) (cV : Nat), s4 = .slice V i cV ∧ s8 = .int .i64 i ∧ Aside0 (i ≤ ni ∧ ni - i ≤ gg) ∧ Aside0 (Parts w0.heap.size w0 wr (pF w0.heap.size (Kd.int .i64) 3 (.slice V i cV) (bIns fr i) :: (iPs w0.heap.size gU gC a0 a1 v2 v4 v5 v6 (fc5 p c) vI hs rows ++ ps))))
  case atStart => exact ⟨0, none, 0, rfl, rfl, ⟨by omega, by omega⟩, S1⟩
  case round =>
    clear S1
    obtain ⟨i, V, cV, rfl, rfl, HKI, S⟩ := hrel
    by_cases hlt : i < ni
    · have HLI := Aside0.mk hlt
      have hltj : (i : Int) < (ni : Int) := by omega
      obtain ⟨x, hx⟩ : ∃ x : Int, 2 * (fr + (i : Int)) = x := ⟨_, rfl⟩
      have hw : wrap64 (2 * wrap64 (fr + (i : Int))) = x := by
        have h1 := HF.out; have h2 := HNI.out
        rw [wrap_in (x := fr + (i : Int)) (by omega) (by omega), wrap_in (by omega) (by omega), hx]
      have HST := Aside0.mk (show bIns fr (i + 1) = bIns fr i ++ [x] by rw [bIns_succ, ← hx])
      have HLN := Aside0.mk (show i = (bIns fr i).length by rw [bIns_len])
      clear hx hlt
      generalize bIns fr i = ys at *
      go_wp2_with (first | (at_builtin; refine Parts.appendL S.out 0 rfl flat_int rfl (.tmp 11) (.tmp 16) 24 (.int .i64 0) 8 rfl Try.underlying24 infoInt rfl (by decide) (by decide) x [.int .i64 x] rfl (by rw [hw]; rfl) rfl (by have := HNI.out; have := HLI.out; have := HLN.out; omega) ?_; intro V2 cap2 w8 h8; have S8 := Aside0.mk h8; clear h8))
      have hys := HLN.out
      go_roundg (ni - (i + 1))
      case measure => have := HKI.out; have := HLI.out; omega
      case rel => exact ⟨i + 1, V2, cap2, (by rw [hys]), (by first | exact val_step HLI.out (by have := HNI.out; omega) | exact congrArg (Value.int .i64) (by omega)), ⟨HLI.out, by have := HKI.out; omega⟩, ⟨by rw [HST.out, hys]; exact S8.out⟩⟩
    · have hk : i = ni := by have := HKI.out; omega
      subst hk
      clear hlt HKI
      have HLN := Aside0.mk (show i = (bIns fr i).length by rw [bIns_len])
      have HRW := Aside0.mk (show rows ++ [bIns fr c.f0.toNat] = rows ++ [bIns fr i] by rw [HNI.out.1])
      generalize bIns fr i = row at *
      have hlr := HLN.out
      clear HLN
      subst hlr
      obtain ⟨c3, f3⟩ := S.out.cell 1 rfl 3 rfl
      go_wp2_with (first | (at_builtin; refine Parts.appendL S.out 2 rfl flat_head rfl (.tmp 20) (.tmp 22) 29 (.slice none 0 0) 24 rfl Try.underlying29 infoRow rfl (by decide) (by decide) (V, row.length, cV) [.slice V row.length cV] rfl rfl rfl (by have := HHL.out; omega) ?_; intro V2 cap2 w8 h8; obtain ⟨c8, f8⟩ := h8.cell 1 rfl 3 rfl; have S8 := Aside0.mk h8; clear h8))
      have S9 := (S8.out.put 1 rfl 3 (.slice V2 (hs.length + 1) cap2) rfl).inAdd 0 3 (by decide) rfl rfl
      refine Go.Great.bodyPost_end0 rfl rfl ?_
      refine ⟨rfl, (V2, cap2), hs ++ [(V, row.length, cV)], ?_⟩
      have e1 : (hs ++ [(V, row.length, cV)]).length = hs.length + 1 := by simp
      rw [HRW.out]
      unfold iPs
      rw [e1]
      exact S9
end Go.Proofs.Ytpoadkogcdfglaa.PH
