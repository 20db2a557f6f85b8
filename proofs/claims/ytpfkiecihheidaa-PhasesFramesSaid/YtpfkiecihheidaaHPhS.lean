/- A frame of the phases is that many frames of the circuit. -/
import Derived.Test.YtpfkiecihheidaaHPhW
import Derived.Test.YtpfkiecihheidaaHSemB
namespace Go.Proofs.Ytpfkiecihheidaa.PH
open Go.RowKit Go.Proofs.YtpfkiecihheidaaW.PrintWords Go.Proofs.YtpfkiecihheidaaW.PrintLast
set_option linter.unusedVariables false
set_option linter.unusedSimpArgs false

/-- The inputs of the frame j. -/
def rowAt (c : Circ) (all : List Bool) (j : Nat) : List Bool := (all.drop (j * c.f0.toNat)).take c.f0.toNat
theorem setNexts_map {α : Type} (F : Latch → α) (g : Int → α) (hF : ∀ x, F x = g x.f0) : ∀ (ls : List Latch) (st : List Int), st.length = ls.length → (setNexts ls st).map F = st.map g
  | [], [], _ => rfl
  | l :: ls, x :: st, h => by
    show F ⟨x, l.f1⟩ :: (setNexts ls st).map F = g x :: st.map g
    rw [setNexts_map F g hF ls st (by simpa using h), hF]
  | [], x :: st, h => by simp at h
  | l :: ls, [], h => by simp at h
theorem setNexts_mem : ∀ (ls : List Latch) (st : List Int) (x : Latch), x ∈ setNexts ls st → x.f0 ∈ st ∧ ∃ y ∈ ls, x.f1 = y.f1
  | [], _, x, h => by simp [setNexts] at h
  | l :: ls, [], x, h => by simp [setNexts] at h
  | l :: ls, s :: st, x, h => by
    rcases List.mem_cons.1 (show x ∈ (⟨s, l.f1⟩ : Latch) :: setNexts ls st from h) with rfl | h
    · exact ⟨by simp, l, by simp, rfl⟩
    · obtain ⟨h1, y, h2, h3⟩ := setNexts_mem ls st x h
      exact ⟨by simp [h1], y, by simp [h2], h3⟩
structure PhFrame (c : Circ) (k : Nat) (st all : List Bool) (r : Circ) (H : Hx) : Prop where
  hc : check r = 0
  f0 : r.f0 = (k : Int) * c.f0
  f1 : r.f1.length = c.f1.length
  b : badsOf r st all = [H.hope]
  h : holdsOf r st all = (H.hope || H.so)
  n : nextOf r st all = H.now
theorem ph_frame {c : Circ} (hc : check c = 0) {k : Nat} {r : Red} (hr : phDone c k = (r, 0)) {st all : List Bool} (hs : st.length = c.f1.length) (ha : (all.length : Int) = (k : Int) * c.f0) : PhFrame c k st all r.f0 (hxRun c (rowAt c all) st k) := by
  have hB := cbnd_of hc
  have hf0 := hB.h0
  unfold phDone at hr
  by_cases hbig : 1000 < (k : Int) * c.f0 + c.f1.length + (phRight c k).1.length
  · rw [if_pos hbig] at hr
    have h1 : (4 : Int) = 0 := congrArg Prod.snd hr
    omega
  rw [if_neg hbig] at hr
  have er : phMade c k = r := congrArg Prod.fst hr
  subst er
  clear hr
  have hk0 : 0 ≤ (k : Int) * c.f0 := by rw [← ha]; omega
  have eI : ((k * c.f0.toNat : Nat) : Int) = (k : Int) * c.f0 := by push_cast; rw [Int.toNat_of_nonneg hf0]
  have fr : ∀ i, i < k → (((i * c.f0.toNat : Nat) : Int) = (i : Int) * c.f0 ∧ (i * c.f0.toNat + c.f0.toNat ≤ k * c.f0.toNat)) := fun i hi => by
    refine ⟨by push_cast; rw [Int.toNat_of_nonneg hf0], ?_⟩
    have h1 : (i + 1) * c.f0.toNat ≤ k * c.f0.toNat := Nat.mul_le_mul_right _ (by omega)
    rw [Nat.add_mul] at h1
    omega
  -- what is made is valid
  have pv : PhV ((k : Int) * c.f0 + c.f1.length) (phS c k) := PhV.run (by omega) (ph0_v hk0 (Int.le_refl _)) k (fun i hi => by
    obtain ⟨h1, h2⟩ := fr i hi
    unfold phFr
    rw [← h1]
    refine ⟨by omega, ?_⟩
    rw [← eI]
    omega)
  have v1 := (bOr_v (n := (k : Int) * c.f0 + c.f1.length) (by omega)).chain (none := 0) (ands := (phS c k).ands) (l := (phS c k).hopes) pv.g (LV.zero (by omega)) pv.y
  have e1 : bChain (bOr ((k : Int) * c.f0 + c.f1.length)) 0 (phS c k).ands (phS c k).hopes = phBad c k := rfl
  rw [e1] at v1
  have v2 := bOr_v (n := (k : Int) * c.f0 + c.f1.length) (by omega) (phBad c k).1 (phBad c k).2 (phS c k).sofar v1.1 v1.2.1 (pv.r.mono v1.2.2)
  have e2 : bOr ((k : Int) * c.f0 + c.f1.length) (phBad c k).1 (phBad c k).2 (phS c k).sofar = phRight c k := rfl
  rw [e2] at v2
  -- and tells
  have S := sem_of hk0 v2.1 ha hs
  obtain ⟨V, hV⟩ : ∃ V, truthFrom (phRight c k).1 (false :: (all ++ st)) = V := ⟨_, rfl⟩
  rw [hV] at S
  have p2 : (phBad c k).1 <+: (phRight c k).1 := (bOr_s _).p _ _ _
  have p1 : (phS c k).ands <+: (phBad c k).1 := bAny_p _ _ _
  have H0 : PhS V (ph0 ((k : Int) * c.f0) c) ⟨st, true, false⟩ := ⟨⟨by
    show (lasOf ((k : Int) * c.f0) c.f1.length).map (litV V) = st
    have h1 := las_of (G := (phRight c k).1) ha [] hs.symm
    rw [List.append_nil, hV] at h1
    exact h1, las_nn hk0 _⟩, S.one, by show (0 : Int) ≤ 1; omega, rfl, fun x hx => by simp [ph0] at hx⟩
  have H := PhS.run S (c := c) (fr := phFr c) (rows := rowAt c all) H0 k (fun i hi => by
    obtain ⟨h1, h2⟩ := fr i hi
    unfold phFr
    rw [← h1]
    refine ⟨by omega, ?_⟩
    rw [← hV]
    exact ins_of (by omega)) (p1.trans p2)
  have e3 : phRun ((k : Int) * c.f0 + c.f1.length) c (phFr c) (ph0 ((k : Int) * c.f0) c) k = phS c k := rfl
  rw [e3] at H
  have b1 := bAny_s S (ands := (phS c k).ands) (l := (phS c k).hopes) H.y0 p2
  have e4 : bAny ((k : Int) * c.f0 + c.f1.length) (phS c k).ands (phS c k).hopes = phBad c k := rfl
  rw [e4, H.y] at b1
  have b2 := (bOr_s _).v S b1.2 H.r0 (List.prefix_rfl (l := (phRight c k).1))
  rw [e2, b1.1, H.r] at b2
  have hlen : (phS c k).state.length = c.f1.length := by
    have h1 := congrArg List.length H.x.e
    rw [List.length_map, hxRun_len hs] at h1
    exact h1
  have hl2 := setNexts_len hlen
  have hval : valsOf (phMade c k).f0 st all = V := hV
  refine ⟨?_, rfl, hl2, ?_, ?_, ?_⟩
  · show check ⟨(k : Int) * c.f0, setNexts c.f1 (phS c k).state, (phRight c k).1, [(phBad c k).2], [(phRight c k).2]⟩ = 0
    refine check_made hk0 ?_ ?_ ?_ ?_ ?_
    · rw [hl2]; exact v2.1
    · rw [hl2]; omega
    · rw [hl2]; exact v1.2.1.mono v2.2.2
    · rw [hl2]; exact v2.2.1
    · rw [hl2]
      intro x hx
      obtain ⟨h1, y, h2, h3⟩ := setNexts_mem _ _ _ hx
      exact ⟨(pv.x _ h1).mono (Nat.le_trans v1.2.2 v2.2.2), by rw [h3]; exact (hB.rs y h2).1, by rw [h3]; exact (hB.rs y h2).2⟩
  · unfold badsOf
    rw [hval]
    show [litV V (phBad c k).2] = _
    rw [b1.1]
  · unfold holdsOf
    rw [hval]
    show (litV V (phRight c k).2 && true) = _
    rw [b2.1, Bool.and_true]
  · unfold nextOf
    rw [hval]
    show (setNexts c.f1 (phS c k).state).map (fun x => litV V x.f0) = _
    rw [setNexts_map _ (litV V) (fun _ => rfl) _ _ hlen, H.x.e]
end Go.Proofs.Ytpfkiecihheidaa.PH
