/- The closures of the builder's frame. -/
import Derived.Test.YtpoadkogcdfglaaHBldC
namespace Go.Proofs.Ytpoadkogcdfglaa.PH
open Go.RowKit Go.Proofs.YtpoadkogcdfglaaW.PrintWords Go.Proofs.YtpoadkogcdfglaaW.PrintLast
set_option linter.unusedVariables false
set_option linter.unusedSimpArgs false

/-- What a literal is told by. -/
def bLit (T : List Int) (l : Int) : Int := if l % 2 = 1 then lNot (T.getD (l / 2).toNat 0) else T.getD (l / 2).toNat 0
/-- A literal of what is told. -/
def LIn (T : List Int) (l : Int) : Prop := 0 ≤ l ∧ l ≤ 1000000 ∧ (l / 2).toNat < T.length
theorem bLit_ok {T : List Int} (h : ∀ x ∈ T, LB x) {l : Int} (hl : LIn T l) : LB (bLit T l) := by
  have h1 : LB (T.getD (l / 2).toNat 0) := by
    rw [List.getD_eq_getElem?_getD, List.getElem?_eq_getElem hl.2.2]
    exact h _ (List.getElem_mem _)
  unfold bLit
  split
  · exact h1.not
  · exact h1
set_option maxHeartbeats 2000000 in
set_option maxRecDepth 100000 in
theorem b_of (gT : Nat) (A : Option Addr) (cap : Nat) (T : List Int) (l : Int) (w : World) (hg : w.cell? ⟨gT, 0, none⟩ = some (.slice A T.length cap)) (hT : RS (Kd.int .i64) w A cap T) (ht : ∀ x ∈ T, LB x) (hl : LIn T l) :
    Calls Try.prog 73 #[.int .i64 l, .pointer (some ⟨gT, 0, none⟩)] w fun e w' => e = .returned (.int .i64 (bLit T l)) ∧ Below w.heap.size w w' := by
  obtain ⟨h0, h1, hk⟩ := hl
  obtain ⟨k, hkv⟩ : ∃ k : Nat, l / 2 = (k : Int) := ⟨(l / 2).toNat, by omega⟩
  have hkn : (l / 2).toNat = k := by omega
  rw [hkn] at hk
  have hw := half_of (x := l) ⟨by omega, by omega⟩ h0
  rw [hkv] at hw
  obtain ⟨ad, e, hc⟩ := at_int hT.r k hk
  cases e
  have hv : T.getD (l / 2).toNat 0 = T[k] := by rw [hkn, List.getD_eq_getElem?_getD, List.getElem?_eq_getElem hk]; rfl
  have hb := ht _ (List.getElem_mem hk)
  have HE := Aside0.mk (show bLit T l = if l % 2 = 1 then lNot T[k] else T[k] by unfold bLit; rw [hv])
  generalize T[k] = v at *
  have ha := bits_and h0 (by omega : l ≤ 1000000000)
  have hx := bits_xor_bit hb.1 (Int.le_trans hb.2 (by decide)) (b := l % 2) (by omega)
  have hki : (k : Int) < (T.length : Int) := by omega
  obtain ⟨r, hr⟩ : ∃ r, (if l % 2 = 1 then lNot v else v) = r := ⟨_, rfl⟩
  rw [hr] at hx HE
  clear hr
  clear hv ht hkv hkn hT h0 h1 hb
  go_enter Try.func73, Try.ntmps73
  go_wp2
  go_ret
  exact ⟨by rw [HE.out]; rfl, Below.refl _ _⟩
theorem eg_of : ∀ args w, (callFunc 73 args).run Try.prog w = .ok (.enter 73 args) w := enters_fn Try.func73 (by kernel_rfl) rfl
theorem eg_all : ∀ args w, (callFunc 74 args).run Try.prog w = .ok (.enter 74 args) w := enters_fn Try.func74 (by kernel_rfl) rfl
set_option maxHeartbeats 4000000 in
set_option maxRecDepth 100000 in
theorem b_all (gO gT : Nat) (A : Option Addr) (cap : Nat) (T : List Int) (L : Option Addr) (lc : Nat) (l : List Int) (w : World) (hO : w.cell? ⟨gO, 0, none⟩ = some (.func (.func 73) #[] #[.pointer (some ⟨gT, 0, none⟩)])) (hg : w.cell? ⟨gT, 0, none⟩ = some (.slice A T.length cap)) (hT : RS (Kd.int .i64) w A cap T) (ht : ∀ x ∈ T, LB x) (hR : RS (Kd.int .i64) w L lc l) (hl : ∀ x ∈ l, LIn T x) (hn : l.length ≤ 1000000) :
    Calls Try.prog 74 #[.slice L l.length lc, .pointer (some ⟨gO, 0, none⟩)] w fun e w' => ∃ V c, e = .returned (.slice V l.length c) ∧ Parts w.heap.size w w' [pF w.heap.size (Kd.int .i64) 3 (.slice V l.length c) (l.map (bLit T))] := by
  have HO := Aside0.mk hO
  have HG := Aside0.mk hg
  have HT := Aside0.mk hT
  have HLB := Aside0.mk ht
  have HR := Aside0.mk hR
  have HL := Aside0.mk hl
  have HN := Aside0.mk hn
  have S := Aside0.mk ((Parts.start w).nil (Kd.int .i64) 3)
  have eg := eg_of
  clear hO hg hT ht hR hl hn
  go_enter Try.func74, Try.ntmps74
  go_wp2
  go_loopg [4, 6, 9] l.length (fun gg s4 s6 s9 wr => ∃ (i : Nat) (V : Option Addr) (c : Nat), s4 = .slice V i c ∧ s9 = .int .i64 i ∧ Aside0 (i ≤ l.length ∧ l.length - i ≤ gg) ∧ Aside0 (Parts w.heap.size w wr [pF w.heap.size (Kd.int .i64) 3 (.slice V i c) ((l.take i).map (bLit T))]))
  case atStart => exact ⟨0, none, 0, rfl, rfl, ⟨by omega, by omega⟩, S⟩
  case round =>
    clear S
    obtain ⟨i, V, c, rfl, rfl, HK, S⟩ := hrel
    by_cases hlt : i < l.length
    · obtain ⟨ad, e, hc⟩ := at_int (HR.out.below S.out.B).r i hlt
      cases e
      have HLI := Aside0.mk (HL.out _ (List.getElem_mem hlt))
      have HST := Aside0.mk (show (l.take (i + 1)).map (bLit T) = (l.take i).map (bLit T) ++ [bLit T l[i]] by rw [List.take_add_one, List.getElem?_eq_getElem hlt, List.map_append]; rfl)
      have HLT := Aside0.mk hlt
      have HLN := Aside0.mk (show i = ((l.take i).map (bLit T)).length by rw [List.length_map, List.length_take]; omega)
      generalize l[i] = x at *
      have cO := pw_cell_below S.out.B HO.out
      go_wp2_with fail
      refine (b_of gT A cap T x _ (pw_cell_below S.out.B HG.out) (HT.out.below S.out.B) HLB.out HLI.out).mono ?_
      rintro e w2 ⟨rfl, hb⟩
      have S2 := Aside0.mk (S.out.below hb)
      clear hb hc S cO
      generalize (l.take i).map (bLit T) = ys at *
      have hi := HLN.out
      clear HLN
      subst hi
      generalize bLit T x = r at *
      go_wp2_with (first | (at_builtin; refine Parts.appendL S2.out 0 rfl flat_int rfl (.tmp 13) (.tmp 17) 24 (.int .i64 0) 8 rfl Try.underlying24 infoInt rfl (by decide) (by decide) r [.int .i64 r] rfl rfl rfl (by have := HN.out; have := HLT.out; omega) ?_; intro V2 cap2 w8 h8; have S8 := Aside0.mk h8; clear h8))
      go_roundg (l.length - (ys.length + 1))
      case measure => have := HK.out; have := HLT.out; omega
      case rel => exact ⟨ys.length + 1, V2, cap2, rfl, (by first | exact val_step HLT.out HR.out.max | exact congrArg (Value.int .i64) (by omega)), ⟨HLT.out, by have := HK.out; omega⟩, ⟨by rw [HST.out]; exact S8.out⟩⟩
    · have hk : i = l.length := by have := HK.out; omega
      subst hk
      rw [List.take_length] at S
      clear hlt
      go_wp2
      go_ret
      exact ⟨V, c, rfl, S.out⟩
end Go.Proofs.Ytpoadkogcdfglaa.PH
