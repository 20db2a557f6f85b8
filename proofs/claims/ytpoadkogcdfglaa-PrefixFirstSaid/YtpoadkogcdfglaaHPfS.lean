/- A frame of the prefix: the frame that it skips to, or a frame of the circuit. -/
import Derived.Test.YtpoadkogcdfglaaHPfP
import Derived.Test.YtpoadkogcdfglaaHSemB
namespace Go.Proofs.Ytpoadkogcdfglaa.PH
open Go.RowKit Go.Proofs.YtpoadkogcdfglaaW.PrintWords Go.Proofs.YtpoadkogcdfglaaW.PrintLast
set_option linter.unusedVariables false
set_option linter.unusedSimpArgs false

/-- The inputs of the frame j. -/
def rowAt (c : Circ) (all : List Bool) (j : Nat) : List Bool := (all.drop (j * c.f0.toNat)).take c.f0.toNat
theorem setNexts_map {α : Type} (F : Latch → α) (g : Int → α) (hF : ∀ x, F x = g x.f0) : ∀ (ls : List Latch) (st : List Int), st.length = ls.length → (setNexts ls st).map F = st.map g
  | [], [], _ => rfl
  | l :: ls, x :: st, h => by
    show F ⟨x, l.f1⟩ :: (setNexts ls st).map F = g x :: st.map g
    rw [setNexts_map F g hF ls st (by simpa using h), hF]
  | [], x :: st, h => by simp at h
  | l :: ls, [], h => by simp at h
theorem setNexts_mem : ∀ (ls : List Latch) (st : List Int) (x : Latch), x ∈ setNexts ls st → x.f0 ∈ st ∧ ∃ y ∈ ls, x.f1 = y.f1
  | [], _, x, h => by simp [setNexts] at h
  | l :: ls, [], x, h => by simp [setNexts] at h
  | l :: ls, s :: st, x, h => by
    rcases List.mem_cons.1 (show x ∈ (⟨s, l.f1⟩ : Latch) :: setNexts ls st from h) with rfl | h
    · exact ⟨by simp, l, by simp, rfl⟩
    · obtain ⟨h1, y, h2, h3⟩ := setNexts_mem ls st x h
      exact ⟨by simp [h1], y, by simp [h2], h3⟩
theorem getD_v {n : Int} (hn : 0 ≤ n) {m : Nat} {l : List Int} (h : ∀ x ∈ l, LV n m x) (i : Nat) : LV n m (l.getD i 0) := by
  rw [List.getD_eq_getElem?_getD]
  by_cases hi : i < l.length
  · rw [List.getElem?_eq_getElem hi]; exact h _ (List.getElem_mem hi)
  · rw [List.getElem?_eq_none (by omega)]; exact LV.zero hn
/-- What the mix keeps. -/
structure MixV (n flag : Int) (first : List Int) (a : Nat) (s : List Gate × List Int) : Prop where
  g : GV n s.1
  x : ∀ x ∈ s.2, LV n s.1.length x
  f : LV n s.1.length flag
  i : ∀ x ∈ first, LV n s.1.length x
  l : a ≤ s.1.length
theorem MixV.one {n : Int} (hn : 0 ≤ n) {flag : Int} {first : List Int} {a : Nat} {s : List Gate × List Int} (h : MixV n flag first a s) (i : Nat) : MixV n flag first a (pfOne n flag first i s) := by
  have g0 := getD_v hn h.x i
  have g1 := getD_v hn h.i i
  unfold pfOne
  have x1 := bAnd_v hn s.1 flag (s.2.getD i 0) h.g h.f g0
  dsimp only
  generalize bAnd n s.1 flag (s.2.getD i 0) = x at *
  have y1 := bAnd_v hn x.1 (lNot flag) (first.getD i 0) x1.1 (h.f.mono x1.2.2).not (g1.mono x1.2.2)
  generalize bAnd n x.1 (lNot flag) (first.getD i 0) = y at *
  have z1 := bOr_v hn y.1 x.2 y.2 y1.1 (x1.2.1.mono y1.2.2) y1.2.1
  generalize bOr n y.1 x.2 y.2 = z at *
  have hl : s.1.length ≤ z.1.length := Nat.le_trans x1.2.2 (Nat.le_trans y1.2.2 z1.2.2)
  refine ⟨z1.1, fun w hw => ?_, h.f.mono hl, fun w hw => (h.i w hw).mono hl, Nat.le_trans h.l hl⟩
  rcases List.mem_or_eq_of_mem_set hw with hw | rfl
  · exact (h.x w hw).mono hl
  · exact z1.2.1
theorem MixV.mix {n : Int} (hn : 0 ≤ n) {flag : Int} {first : List Int} {a : Nat} {s : List Gate × List Int} (h : MixV n flag first a s) : ∀ i, MixV n flag first a (pfMix n flag first s i)
  | 0 => h
  | i + 1 => (MixV.mix hn h i).one hn i
theorem pfOne_p (n flag : Int) (first : List Int) (i : Nat) (s : List Gate × List Int) : s.1 <+: (pfOne n flag first i s).1 :=
  ((bAnd_s n).p s.1 flag (s.2.getD i 0)).trans (((bAnd_s n).p _ _ _).trans ((bOr_s n).p _ _ _))
theorem pfMix_p (n flag : Int) (first : List Int) (s : List Gate × List Int) : ∀ i, s.1 <+: (pfMix n flag first s i).1
  | 0 => List.prefix_rfl
  | i + 1 => (pfMix_p n flag first s i).trans (pfOne_p n flag first i _)
/-- The state so far. -/
def mixL (fl : Bool) (now st : List Bool) (i : Nat) : List Bool := if fl then now else st.take i ++ now.drop i
theorem Told.get {n : Int} {G : List Gate} {V : List Bool} (S : Sem n G V) {T : List Int} {v : List Bool} (h : Told V T v) (i : Nat) : litV V (T.getD i 0) = v.getD i false ∧ 0 ≤ T.getD i 0 := by
  rw [← h.e, List.getD_eq_getElem?_getD, List.getD_eq_getElem?_getD, List.getElem?_map]
  by_cases hi : i < T.length
  · rw [List.getElem?_eq_getElem hi]; exact ⟨rfl, h.p _ (List.getElem_mem hi)⟩
  · rw [List.getElem?_eq_none (by omega)]; exact ⟨S.zero, Int.le_refl _⟩
section
variable {n : Int} {G : List Gate} {V : List Bool}
theorem pfMix_s (S : Sem n G V) {flag : Int} {fl : Bool} (hf : litV V flag = fl) (hf0 : 0 ≤ flag) {first : List Int} {now st : List Bool} (hl : now.length = st.length) (h1 : Told V first st) {s : List Gate × List Int} (h : Told V s.2 now) :
    ∀ i, i ≤ st.length → (pfMix n flag first s i).1 <+: G → Told V (pfMix n flag first s i).2 (mixL fl now st i)
  | 0, _, _ => by
    show Told V s.2 _
    unfold mixL
    cases fl
    · simpa using h
    · simpa using h
  | i + 1, hi, hp => by
    have h2 := pfMix_s S hf hf0 hl h1 h i (by omega) ((pfOne_p n flag first i _).trans hp)
    show Told V (pfOne n flag first i (pfMix n flag first s i)).2 _
    have hp2 : (pfOne n flag first i (pfMix n flag first s i)).1 <+: G := hp
    generalize pfMix n flag first s i = q at *
    unfold pfOne at hp2 ⊢
    dsimp only at hp2 ⊢
    have g0 := h2.get S i
    have g1 := h1.get S i
    have pz := (bOr_s n).p (bAnd n (bAnd n q.1 flag (q.2.getD i 0)).1 (lNot flag) (first.getD i 0)).1 (bAnd n q.1 flag (q.2.getD i 0)).2 (bAnd n (bAnd n q.1 flag (q.2.getD i 0)).1 (lNot flag) (first.getD i 0)).2
    have py := (bAnd_s n).p (bAnd n q.1 flag (q.2.getD i 0)).1 (lNot flag) (first.getD i 0)
    have vx := (bAnd_s n).v S hf0 g0.2 (py.trans (pz.trans hp2))
    have vy := (bAnd_s n).v S (lNot_nn hf0) g1.2 (pz.trans hp2)
    have vz := (bOr_s n).v S vx.2 vy.2 hp2
    rw [vx.1, vy.1, litV_not V hf0, hf, g0.1, g1.1] at vz
    generalize (bOr n (bAnd n (bAnd n q.1 flag (q.2.getD i 0)).1 (lNot flag) (first.getD i 0)).1 (bAnd n q.1 flag (q.2.getD i 0)).2 (bAnd n (bAnd n q.1 flag (q.2.getD i 0)).1 (lNot flag) (first.getD i 0)).2).2 = z at *
    refine ⟨?_, fun x hx => ?_⟩
    · rw [List.map_set, h2.e, vz.1]
      unfold mixL
      cases fl with
      | true =>
        simp only [if_true, Bool.true_and, Bool.not_true, Bool.false_and, Bool.or_false]
        rw [List.getD_eq_getElem?_getD, List.getElem?_eq_getElem (show i < now.length by omega)]
        exact List.set_getElem_self _
      | false =>
        simp only [Bool.false_eq_true, if_false, Bool.false_and, Bool.not_false, Bool.true_and, Bool.false_or]
        rw [List.getD_eq_getElem?_getD, List.getElem?_eq_getElem (show i < st.length by omega), List.set_append_right _ _ (by rw [List.length_take]; omega), List.length_take, Nat.min_eq_left (by omega), Nat.sub_self, List.drop_eq_getElem_cons (show i < now.length by omega), List.set_cons_zero, take_at (show i < st.length by omega), List.append_assoc]
        rfl
    · rcases List.mem_or_eq_of_mem_set hx with hx | rfl
      · exact h2.p x hx
      · exact vz.2
end
theorem mixL_end {fl : Bool} {now st : List Bool} (h : now.length = st.length) : mixL fl now st st.length = if fl then now else st := by
  unfold mixL
  cases fl
  · rw [if_neg (by simp), if_neg (by simp), List.take_length, List.drop_of_length_le (by omega), List.append_nil]
  · rfl
structure PfFrame (c : Circ) (k : Nat) (fl : Bool) (st all : List Bool) (r : Circ) (H : Hx) : Prop where
  hc : check r = 0
  f0 : r.f0 = ((k : Int) + 1) * c.f0
  f1 : r.f1.length = c.f1.length + 1
  b : badsOf r (st ++ [fl]) all = [(badsOf c (if fl then H.now else st) (rowAt c all 0)).any id || (fl && H.hope)]
  h : holdsOf r (st ++ [fl]) all = ((fl && H.hope) || (holdsOf c (if fl then H.now else st) (rowAt c all 0) && (!fl || H.so)))
  n : nextOf r (st ++ [fl]) all = nextOf c (if fl then H.now else st) (rowAt c all 0) ++ [false]
theorem pf_frame {c : Circ} (hc : check c = 0) {k : Nat} {r : Red} (hr : pfDone c k = (r, 0)) (fl : Bool) {st all : List Bool} (hs : st.length = c.f1.length) (ha : (all.length : Int) = ((k : Int) + 1) * c.f0) : PfFrame c k fl st all r.f0 (hxRun c (fun j => rowAt c all (j + 1)) st k) := by
  have hB := cbnd_of hc
  have hf0 := hB.h0
  obtain ⟨inp, hinp⟩ : ∃ inp, ((k : Int) + 1) * c.f0 = inp := ⟨_, rfl⟩
  obtain ⟨s, hph⟩ : ∃ s, phRun (inp + (c.f1.length + 1 : Nat)) c (pfFr c) (ph0 inp c) k = s := ⟨_, rfl⟩
  obtain ⟨R, hR⟩ : ∃ R, pfFrame inp c s = R := ⟨_, rfl⟩
  obtain ⟨E, hE⟩ : ∃ E, pfEnds (inp + (c.f1.length + 1 : Nat)) (pfFlag inp c) R s = E := ⟨_, rfl⟩
  rw [pfDone_eq hinp hph hR hE] at hr
  by_cases hbig : 1000 < inp + (c.f1.length + 1 : Nat) + E.o3.1.length
  · rw [if_pos hbig] at hr
    have h1 : (4 : Int) = 0 := congrArg Prod.snd hr
    omega
  rw [if_neg hbig] at hr
  have er := (congrArg Prod.fst hr).symm
  dsimp only at er
  subst er
  clear hr
  rw [hinp] at ha
  have hk0 : 0 ≤ inp := by rw [← ha]; omega
  have eI : ((k * c.f0.toNat + c.f0.toNat : Nat) : Int) = inp := by rw [← hinp]; push_cast; rw [Int.toNat_of_nonneg hf0, Int.add_mul]; omega
  have fr : ∀ i, i < k → ((((i + 1) * c.f0.toNat : Nat) : Int) = ((i : Int) + 1) * c.f0 ∧ ((i + 1) * c.f0.toNat ≤ k * c.f0.toNat)) := fun i hi => by
    refine ⟨by push_cast; rw [Int.toNat_of_nonneg hf0], ?_⟩
    exact Nat.mul_le_mul_right _ (by omega)
  obtain ⟨n, hn⟩ : ∃ n, inp + ((c.f1.length + 1 : Nat) : Int) = n := ⟨_, rfl⟩
  have hn0 : 0 ≤ n := by omega
  rw [hn] at hph hE hbig
  -- what is made is valid
  have pv : PhV n s := by
    rw [← hph]
    exact PhV.run hn0 (ph0_v hk0 (by omega)) k (fun i hi => by
      obtain ⟨h1, h2⟩ := fr i hi
      unfold pfFr
      rw [← h1]
      refine ⟨by omega, ?_⟩
      omega)
  have fv : LV n s.ands.length (pfFlag inp c) := by unfold pfFlag; exact ⟨by omega, by omega⟩
  have mv : MixV n (pfFlag inp c) (lasOf inp c.f1.length) s.ands.length (pfMix n (pfFlag inp c) (lasOf inp c.f1.length) (s.ands, s.state) c.f1.length) :=
    MixV.mix hn0 (s := (s.ands, s.state)) ⟨pv.g, pv.x, fv, fun y hy => by
      obtain ⟨q, hq, rfl⟩ := List.mem_map.1 hy
      have := List.mem_range.1 hq
      exact ⟨by omega, by omega⟩, Nat.le_refl _⟩ _
  obtain ⟨M, hM⟩ : ∃ M, pfMix n (pfFlag inp c) (lasOf inp c.f1.length) (s.ands, s.state) c.f1.length = M := ⟨_, rfl⟩
  have hR2 : bFrame n c M.1 1 M.2 = R := by rw [← hR]; unfold pfFrame; rw [hn, hM]
  rw [hM] at mv
  have rv : FV n M.1.length R := by rw [← hR2]; exact bFrame_v hn0 mv.g (by omega) mv.x
  have lR : s.ands.length ≤ R.ands.length := Nat.le_trans mv.l rv.l
  unfold pfEnds at hE
  obtain ⟨h, hh⟩ : ∃ h, bAny n R.ands s.hopes = h := ⟨_, rfl⟩
  rw [hh] at hE
  obtain ⟨e, he⟩ : ∃ e, bAnd n h.1 (pfFlag inp c) h.2 = e := ⟨_, rfl⟩
  obtain ⟨o1, ho1⟩ : ∃ o, bOr n e.1 R.bad e.2 = o := ⟨_, rfl⟩
  obtain ⟨o2, ho2⟩ : ∃ o, bOr n o1.1 (lNot (pfFlag inp c)) s.sofar = o := ⟨_, rfl⟩
  obtain ⟨a, hab⟩ : ∃ a, bAnd n o2.1 R.right o2.2 = a := ⟨_, rfl⟩
  obtain ⟨o3, ho3⟩ : ∃ o, bOr n a.1 e.2 a.2 = o := ⟨_, rfl⟩
  dsimp only at hE
  rw [he, ho1, ho2, hab, ho3] at hE
  subst hE
  dsimp only at hbig ⊢
  have v1 := (bOr_v hn0).chain (none := 0) (ands := R.ands) (l := s.hopes) rv.g (LV.zero hn0) (fun y hy => (pv.y y hy).mono lR)
  have e1 : bChain (bOr n) 0 R.ands s.hopes = h := hh
  rw [e1] at v1
  have v2 := bAnd_v hn0 h.1 (pfFlag inp c) h.2 v1.1 (fv.mono (Nat.le_trans lR v1.2.2)) v1.2.1
  rw [he] at v2
  have v3 := bOr_v hn0 e.1 R.bad e.2 v2.1 (rv.b.mono (Nat.le_trans v1.2.2 v2.2.2)) v2.2.1
  rw [ho1] at v3
  have v4 := bOr_v hn0 o1.1 (lNot (pfFlag inp c)) s.sofar v3.1 (fv.mono (by omega)).not (pv.r.mono (by omega))
  rw [ho2] at v4
  have v5 := bAnd_v hn0 o2.1 R.right o2.2 v4.1 (rv.r.mono (by omega)) v4.2.1
  rw [hab] at v5
  have v6 := bOr_v hn0 a.1 e.2 a.2 v5.1 (v2.2.1.mono (by omega)) v5.2.1
  rw [ho3] at v6
  -- and tells
  have S := sem_of hk0 (m := c.f1.length + 1) (G := o3.1) (by rw [hn]; exact v6.1) (st := st ++ [fl]) ha (by rw [List.length_append, hs]; rfl)
  rw [hn] at S
  obtain ⟨V, hV⟩ : ∃ V, truthFrom o3.1 (false :: (all ++ (st ++ [fl]))) = V := ⟨_, rfl⟩
  rw [hV] at S
  have p6 : a.1 <+: o3.1 := by rw [← ho3]; exact (bOr_s n).p _ _ _
  have p5 : o2.1 <+: o3.1 := List.IsPrefix.trans (by rw [← hab]; exact (bAnd_s n).p _ _ _) p6
  have p4 : o1.1 <+: o3.1 := List.IsPrefix.trans (by rw [← ho2]; exact (bOr_s n).p _ _ _) p5
  have p3 : e.1 <+: o3.1 := List.IsPrefix.trans (by rw [← ho1]; exact (bOr_s n).p _ _ _) p4
  have p2 : h.1 <+: o3.1 := List.IsPrefix.trans (by rw [← he]; exact (bAnd_s n).p _ _ _) p3
  have p1 : R.ands <+: o3.1 := List.IsPrefix.trans (by rw [← hh]; exact bAny_p _ _ _) p2
  have pM : M.1 <+: o3.1 := List.IsPrefix.trans (by rw [← hR2]; exact bFrame_p _ _ _ _ _) p1
  have p0 : s.ands <+: o3.1 := List.IsPrefix.trans (by rw [← hM]; exact pfMix_p n (pfFlag inp c) (lasOf inp c.f1.length) (s.ands, s.state) c.f1.length) pM
  have hfl0 : 0 ≤ pfFlag inp c := fv.1
  have hfl : litV V (pfFlag inp c) = fl := by
    unfold pfFlag
    rw [← hV, show 2 * (inp + 1 + (c.f1.length : Int)) = 2 * ((all.length + c.f1.length + 1 : Nat) : Int) by push_cast; omega, litV_low _ _ (by simp only [List.length_cons, List.length_append]; omega), List.getD_cons_succ, List.getD_eq_getElem?_getD, List.getElem?_append_right (by omega), show all.length + c.f1.length - all.length = st.length by omega]
    simp
  have hT : Told V (lasOf inp c.f1.length) st := ⟨by
    have h1 := las_of (G := o3.1) ha [fl] hs.symm
    rw [hV] at h1
    exact h1, las_nn hk0 _⟩
  have H0 : PhS V (ph0 inp c) ⟨st, true, false⟩ := ⟨hT, S.one, by show (0 : Int) ≤ 1; omega, rfl, fun x hx => by simp [ph0] at hx⟩
  have hrow : ∀ i, i ≤ k → (bIns (1 + ((i * c.f0.toNat : Nat) : Int)) c.f0.toNat).map (litV V) = rowAt c all i := fun i hi => by
    rw [← hV]
    refine ins_of ?_
    have h1 : i * c.f0.toNat ≤ k * c.f0.toNat := Nat.mul_le_mul_right _ hi
    omega
  have H := PhS.run S (c := c) (fr := pfFr c) (rows := fun j => rowAt c all (j + 1)) H0 k (fun i hi => by
    obtain ⟨h1, h2⟩ := fr i hi
    unfold pfFr
    rw [← h1]
    exact ⟨by omega, hrow (i + 1) (by omega)⟩) (by rw [hph]; exact p0)
  rw [hph] at H
  have hlen := hxRun_len (c := c) (rows := fun j => rowAt c all (j + 1)) hs k
  obtain ⟨X, hX⟩ : ∃ X, hxRun c (fun j => rowAt c all (j + 1)) st k = X := ⟨_, rfl⟩
  rw [hX] at H hlen ⊢
  have HM := pfMix_s S hfl hfl0 (now := X.now) (by rw [hlen, hs]) hT (s := (s.ands, s.state)) H.x c.f1.length (by omega) (by rw [hM]; exact pM)
  rw [hM, ← hs, mixL_end (by rw [hlen, hs])] at HM
  have HF := bFrame_s S (f := c) (ands := M.1) (input := 1) (by omega) (ins := rowAt c all 0) (by
    have h1 := hrow 0 (by omega)
    rw [Nat.zero_mul] at h1
    exact h1) HM (by rw [hR2]; exact p1)
  rw [hR2] at HF
  have b1 := bAny_s S (ands := R.ands) (l := s.hopes) H.y0 (by rw [hh]; exact p2)
  rw [hh, H.y] at b1
  have b2 := (bAnd_s n).v S (ands := h.1) hfl0 b1.2 (by rw [he]; exact p3)
  rw [he, hfl, b1.1] at b2
  have b3 := (bOr_s n).v S (ands := e.1) HF.b0 b2.2 (by rw [ho1]; exact p4)
  rw [ho1, HF.b, b2.1] at b3
  have b4 := (bOr_s n).v S (ands := o1.1) (lNot_nn hfl0) H.r0 (by rw [ho2]; exact p5)
  rw [ho2, litV_not V hfl0, hfl, H.r] at b4
  have b5 := (bAnd_s n).v S (ands := o2.1) HF.r0 b4.2 (by rw [hab]; exact p6)
  rw [hab, HF.r, b4.1] at b5
  have b6 := (bOr_s n).v S (ands := a.1) b2.2 b5.2 (by rw [ho3]; exact List.prefix_rfl)
  rw [ho3, b2.1, b5.1] at b6
  have hnl : R.nexts.length = c.f1.length := by
    have h1 := congrArg List.length HF.x.e
    rw [List.length_map, nextOf_len] at h1
    exact h1
  have hl2 := setNexts_len hnl
  have hl3 : (setNexts c.f1 R.nexts ++ [(⟨0, 1⟩ : Latch)]).length = c.f1.length + 1 := by rw [List.length_append, hl2]; rfl
  have hval : valsOf ⟨inp, setNexts c.f1 R.nexts ++ [⟨0, 1⟩], o3.1, [o1.2], [o3.2]⟩ (st ++ [fl]) all = V := hV
  refine ⟨?_, hinp.symm, hl3, ?_, ?_, ?_⟩
  · refine check_made hk0 ?_ ?_ ?_ ?_ ?_
    · rw [hl3, hn]; exact v6.1
    · rw [hl3, hn]; omega
    · rw [hl3, hn]; exact v3.2.1.mono (by omega)
    · rw [hl3, hn]; exact v6.2.1
    · rw [hl3, hn]
      intro x hx
      rcases List.mem_append.1 hx with hx | hx
      · obtain ⟨h1, y, h2, h3⟩ := setNexts_mem _ _ _ hx
        exact ⟨(rv.x _ h1).mono (by omega), by rw [h3]; exact (hB.rs y h2).1, by rw [h3]; exact (hB.rs y h2).2⟩
      · rw [List.mem_singleton.1 hx]
        exact ⟨LV.zero hn0, by show (0 : Int) ≤ 1; omega, by show (1 : Int) ≤ 2; omega⟩
  · unfold badsOf
    rw [hval]
    show [litV V o1.2] = _
    rw [b3.1]
    rfl
  · unfold holdsOf
    rw [hval]
    show (litV V o3.2 && true) = _
    rw [b6.1, Bool.and_true]
    rfl
  · unfold nextOf
    rw [hval]
    show (setNexts c.f1 R.nexts ++ [(⟨0, 1⟩ : Latch)]).map (fun x => litV V x.f0) = _
    rw [List.map_append, setNexts_map _ (litV V) (fun _ => rfl) _ _ hnl, HF.x.e]
    show _ ++ [litV V 0] = _
    rw [S.zero]
    rfl
end Go.Proofs.Ytpoadkogcdfglaa.PH
