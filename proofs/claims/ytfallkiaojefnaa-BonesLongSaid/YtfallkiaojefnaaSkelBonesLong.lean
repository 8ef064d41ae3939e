/- Skeletons: what tourref5's Skeleton, bones.Check, bones.Rest and bones.fitting compute. Under the conditions that stand at each. -/
import Derived.Test.YtfallkiaojefnaaNumBonesLong
import Derived.Test.YtfallkiaojefnaaSrcBonesLong
namespace Go.Proofs.Ytfallkiaojefnaa.SkelBonesLong
open Go.RowKit Go.Proofs.YtfallkiaojefnaaW.PrintWords Go.Proofs.YtfallkiaojefnaaW.PrintLast Go.Proofs.YtfallkiaojefnaaW.PrintMore Go.Proofs.Ytfallkiaojefnaa.Ext Go.Proofs.Ytfallkiaojefnaa.PBonesLong Go.Proofs.Ytfallkiaojefnaa.NumBonesLong Go.Proofs.Ytfallkiaojefnaa.SrcBonesLong
set_option linter.unusedVariables false

abbrev V3 := S33
abbrev Bn := S35
abbrev Qt := S37
abbrev rdB := rd_T35
abbrev rdQ := rd_T37
def one : Qt := ⟨65536, 0, 0, 0⟩
theorem w1 : wrap64 (0 + 1) = 1 := by decide +kernel
theorem w2 : wrap64 (1 + 1) = 2 := by decide +kernel
theorem w3 : wrap64 (2 + 1) = 3 := by decide +kernel

theorem n10 : ¬ ((1 : Int) = 0) := by omega
theorem n20 : ¬ ((2 : Int) = 0) := by omega
theorem n21 : ¬ ((2 : Int) = 1) := by omega
theorem rdB_get (L : List Bn) (i : Nat) (h : i < L.length) : rdB L i = L[i] := by simp [rdB, rd_T35, h]
theorem rdQ_get (L : List Qt) (i : Nat) (h : i < L.length) : rdQ L i = L[i] := by simp [rdQ, rd_T37, h]

/-! ### Skeleton -/
def okB (i : Nat) (b : Bn) : Prop := (-1 ≤ b.f0 ∧ b.f0 < i) ∧ (-655360 ≤ b.f1.f0 ∧ b.f1.f0 ≤ 655360) ∧ (-655360 ≤ b.f1.f1 ∧ b.f1.f1 ≤ 655360) ∧ -655360 ≤ b.f1.f2 ∧ b.f1.f2 ≤ 655360
def okS (L : List Bn) : Prop := ∀ i b, L[i]? = some b → okB i b
theorem okS_nil : okS [] := by intro i b h; simp at h
theorem okS_snoc {L : List Bn} {b : Bn} (h : okS L) (hb : okB L.length b) : okS (L ++ [b]) := by
  intro i c hc
  rcases Nat.lt_trichotomy i L.length with hi | hi | hi
  · rw [List.getElem?_append_left hi] at hc; exact h i c hc
  · subst hi; rw [List.getElem?_append_right (Nat.le_refl _), Nat.sub_self] at hc
    obtain rfl : b = c := by simpa using hc
    exact hb
  · rw [List.getElem?_eq_none (by simp; omega)] at hc; cases hc
theorem okS_rd {L : List Bn} (h : okS L) (i : Nat) (hi : i < L.length) : okB i (rdB L i) := by
  rw [rdB_get L i hi]; exact h i _ (List.getElem?_eq_getElem hi)

theorem skel_l1 (l : List Int) (hl : l.length ≤ 4611686018427387904) (L : List Bn) (hL : L.length ≤ 100) (m i up j : Int) (hi : 0 ≤ i ∧ i ≤ 100) (hj : 0 ≤ j ∧ j ≤ l.length) :
    ∃ (j' : Int) (v : V3), (0 ≤ j' ∧ j' ≤ l.length) ∧ ((-655360 ≤ v.f0 ∧ v.f0 ≤ 655360) ∧ (-655360 ≤ v.f1 ∧ v.f1 ≤ 655360) ∧ -655360 ≤ v.f2 ∧ v.f2 ≤ 655360) ∧
      ∀ R, Ev (fun k => tourref5_Skeleton.l0 k (L ++ [⟨up, v⟩]) m (i + 1) l j') R → Ev (fun k => tourref5_Skeleton.l1 k L m i 0 l j up 0 0 0) R := by
  obtain ⟨b1, j1, e1, hb1, q1, r1⟩ := n_ok l hl j 1310720 hj (by omega)
  obtain ⟨b2, j2, e2, hb2, q2, r2⟩ := n_ok l hl j1 1310720 ⟨q1, r1⟩ (by omega)
  obtain ⟨b3, j3, e3, hb3, q3, r3⟩ := n_ok l hl j2 1310720 ⟨q2, r2⟩ (by omega)
  refine ⟨j3, ⟨b1 - 655360, b2 - 655360, b3 - 655360⟩, ⟨q3, r3⟩, ⟨⟨by simp only; omega, by simp only; omega⟩, ⟨by simp only; omega, by simp only; omega⟩, by simp only; omega, by simp only; omega⟩, fun R hR => ?_⟩
  have s1 : wrap64 (b1 - 655360) = b1 - 655360 := wrap_in (by omega) (by omega)
  have s2 : wrap64 (b2 - 655360) = b2 - 655360 := wrap_in (by omega) (by omega)
  have s3 : wrap64 (b3 - 655360) = b3 - 655360 := wrap_in (by omega) (by omega)
  have si : wrap64 (i + 1) = i + 1 := wrap_in (by omega) (by omega)
  refine Ev.step (fun k => by rw [tourref5_Skeleton.l1, if_pos (by omega)]) ?_
  simp only [e1, Option.bind_some, if_true, w1, s1]
  refine Ev.step (fun k => by rw [tourref5_Skeleton.l1, if_pos (by omega)]) ?_
  simp only [e2, Option.bind_some, if_neg n10, if_true, w2, s2]
  refine Ev.step (fun k => by rw [tourref5_Skeleton.l1, if_pos (by omega)]) ?_
  simp only [e3, Option.bind_some, if_neg n20, if_neg n21, if_true, w3, s3]
  exact Ev.step (fun k => by rw [tourref5_Skeleton.l1, if_neg (by omega), if_pos (by omega), si]) hR

theorem skel_l0 (l : List Int) (hl : l.length ≤ 4611686018427387904) (m : Nat) (hm : m ≤ 5) : ∀ d i : Nat, i + d = m → ∀ (j : Int) (L : List Bn), L.length = i → okS L → 0 ≤ j → j ≤ l.length →
    ∃ R, Ev (fun k => tourref5_Skeleton.l0 k L m i l j) R ∧ okS R ∧ R.length ≤ 5 := by
  intro d
  induction d with
  | zero =>
    intro i hi j L hL hok _ _
    exact ⟨L, Ev.step (f := fun _ => some L) (fun k => by rw [tourref5_Skeleton.l0, if_neg (by omega)]) (Ev.now _), hok, by omega⟩
  | succ d ih =>
    intro i hi j L hL hok hj0 hj1
    obtain ⟨b1, j1, e1, hb1, q1, r1⟩ := n_ok l hl j (i + 1) ⟨hj0, hj1⟩ (by omega)
    obtain ⟨j', v, hj', hv, hc⟩ := skel_l1 l hl L (by omega) m i (b1 - 1) j1 (by omega) ⟨q1, r1⟩
    obtain ⟨R, hR, h1, h2⟩ := ih (i + 1) (by omega) j' (L ++ [⟨b1 - 1, v⟩]) (by simp; omega) (okS_snoc hok ⟨⟨by simp only; omega, by simp only; omega⟩, hv⟩) hj'.1 hj'.2
    rw [show (((i + 1 : Nat) : Int)) = (i : Int) + 1 by omega] at hR
    refine ⟨R, Ev.step (f := fun k => tourref5_Skeleton.l1 k L m i 0 l j1 (b1 - 1) 0 0 0) (fun k => ?_) (hc R hR), h1, h2⟩
    rw [tourref5_Skeleton.l0, if_pos (by omega), wrap_in (x := (i : Int) + 1) (by omega) (by omega), e1]
    simp only [Option.bind_some]
    rw [wrap_in (x := b1 - 1) (by omega) (by omega)]

/-- A drawn skeleton is short, and right. -/
theorem skel_ev (l : List Int) (hl : l.length ≤ 4611686018427387904) : ∃ L, Ev (fun k => tourref5_Skeleton.f k l) L ∧ okS L ∧ L.length ≤ 5 := by
  unfold tourref5_Skeleton.f tourref5_From.f
  simp only [Option.bind_some]
  obtain ⟨b1, j1, e1, hb1, q1, r1⟩ := n_ok l hl 0 6 ⟨by omega, by omega⟩ (by omega)
  simp only [e1, Option.bind_some]
  obtain ⟨m, rfl⟩ := Int.eq_ofNat_of_zero_le hb1.1
  exact skel_l0 l hl m (by omega) m 0 (by omega) j1 [] rfl okS_nil q1 r1

/-! ### Rest -/
theorem rest_l0 (n : Nat) (hn : n ≤ 4611686018427387904) : ∀ d j : Nat, j + d = n → Ev (fun k => bones_Rest.l0 k (List.replicate j one ++ List.replicate d z37) n j) (List.replicate n one) := by
  intro d
  induction d with
  | zero =>
    intro j hj
    obtain rfl : j = n := by omega
    refine Ev.step (f := fun _ => some (List.replicate j one)) (fun k => by rw [bones_Rest.l0, if_neg (by omega)]; simp) (Ev.now _)
  | succ d ih =>
    intro j hj
    have hlen : (List.replicate j one ++ List.replicate (d + 1) z37).length = n := by simp; omega
    have e : rdQ (List.replicate j one ++ List.replicate (d + 1) z37) j = z37 := by
      rw [rdQ_get _ _ (by omega), List.getElem_append_right (by simp)]
      simp
    have hset : (List.replicate j one ++ List.replicate (d + 1) z37).set (j : Int).toNat (⟨65536, (rd_T37 (List.replicate j one ++ List.replicate (d + 1) z37) j).f1, (rd_T37 (List.replicate j one ++ List.replicate (d + 1) z37) j).f2, (rd_T37 (List.replicate j one ++ List.replicate (d + 1) z37) j).f3⟩ : Qt) = List.replicate j one ++ one :: List.replicate d z37 := by
      rw [show rd_T37 (List.replicate j one ++ List.replicate (d + 1) z37) j = z37 from e, Int.toNat_natCast, List.set_append_right _ _ (by simp), List.length_replicate, Nat.sub_self, List.replicate_succ, List.set_cons_zero]
      rfl
    have sj : wrap64 ((j : Int) + 1) = j + 1 := wrap_in (by omega) (by omega)
    refine Ev.step (fun k => by rw [bones_Rest.l0, if_pos (by omega), if_pos (by omega), if_pos (by omega), hset, sj]) ?_
    have h2 := ih (j + 1) (by omega)
    rw [show (((j + 1 : Nat) : Int)) = (j : Int) + 1 by omega, List.replicate_succ', List.append_assoc, List.singleton_append] at h2
    exact h2
theorem rest_ev (L : List Bn) (hL : L.length ≤ 8796093022208) : Ev (fun k => bones_Rest.f k L) (List.replicate L.length one) := by
  unfold bones_Rest.f
  simp only [if_pos (show (0 : Int) ≤ ((L.length : Nat) : Int) by omega), Int.toNat_natCast, if_pos hL, Option.bind_some, List.length_replicate]
  exact rest_l0 L.length (by omega) L.length 0 (by omega)

/-! ### Check -/
def far (x : Int) : Prop := x > 65536000 ∨ x < -65536000
instance (x : Int) : Decidable (far x) := by unfold far; exact inferInstance
def chkB (i : Int) (b : Bn) : Int := if b.f0 < -1 ∨ b.f0 ≥ i then 9 else if far b.f1.f0 ∨ far b.f1.f1 ∨ far b.f1.f2 then 1 else 0
def chkFrom : Int → List Bn → Int
  | _, [] => 0
  | i, b :: L => if chkB i b = 0 then chkFrom (i + 1) L else chkB i b
def checkV (L : List Bn) : Int := if (L.length : Int) > 40 then 2 else chkFrom 0 L

theorem chk_one (L : List Bn) (m i x a b c : Int) (hx : x = 0 ∨ x = 1 ∨ x = 2) (v : Int) (hv : v = if x = 0 then a else if x = 1 then b else c) (R : Int) (h : if far v then R = 1 else Ev (fun k => bones_Check.l1 k L m i (x + 1) a b c) R) : Ev (fun k => bones_Check.l1 k L m i x a b c) R := by
  have hs : ∀ k, bones_Check.l1 (k + 1) L m i x a b c = if v > 65536000 then some 1 else if v < -65536000 then some 1 else bones_Check.l1 k L m i (x + 1) a b c := by
    intro k
    rw [bones_Check.l1, if_pos (by omega), wrap_in (x := x + 1) (by omega) (by omega)]
    rcases hx with rfl | rfl | rfl
    · rw [if_pos rfl]; rw [if_pos rfl] at hv; rw [hv]
    · rw [if_neg (by omega), if_pos rfl]; rw [if_neg (by omega), if_pos rfl] at hv; rw [hv]
    · rw [if_neg (by omega), if_neg (by omega), if_pos rfl]; rw [if_neg (by omega), if_neg (by omega)] at hv; rw [hv]
  by_cases c : far v
  · rw [if_pos c] at h
    subst h
    refine Ev.step (f := fun _ => some 1) (fun k => ?_) (Ev.now _)
    rw [hs]
    unfold far at c
    by_cases c1 : v > 65536000
    · rw [if_pos c1]
    · rw [if_neg c1, if_pos (by omega)]
  · rw [if_neg c] at h
    unfold far at c
    exact Ev.step (fun k => by rw [hs, if_neg (by omega), if_neg (by omega)]) h

theorem chk_l0 (L : List Bn) (hL : L.length ≤ 4611686018427387904) : ∀ n i : Nat, i + n = L.length → Ev (fun k => bones_Check.l0 k L L.length i) (chkFrom i (L.drop i)) := by
  intro n
  induction n with
  | zero =>
    intro i hi
    rw [List.drop_eq_nil_of_le (by omega)]
    exact Ev.step (f := fun _ => some 0) (fun k => by rw [bones_Check.l0, if_neg (by omega)]) (Ev.now _)
  | succ n ih =>
    intro i hi
    have hd : L.drop i = rdB L i :: L.drop (i + 1) := by rw [List.drop_eq_getElem_cons (by omega), rdB_get L i (by omega)]
    have h2 := ih (i + 1) (by omega)
    rw [show (((i + 1 : Nat) : Int)) = (i : Int) + 1 by omega] at h2
    have hs : ∀ k, bones_Check.l0 (k + 1) L L.length i = if (rdB L i).f0 < -1 then bones_Check.j1 k L L.length i true (rdB L i).f0 (rdB L i).f1.f0 (rdB L i).f1.f1 (rdB L i).f1.f2 else bones_Check.j1 k L L.length i (decide ((rdB L i).f0 ≥ i)) (rdB L i).f0 (rdB L i).f1.f0 (rdB L i).f1.f1 (rdB L i).f1.f2 := by
      intro k
      rw [bones_Check.l0, if_pos (by omega), if_pos (by omega), if_pos (by omega)]
    rw [hd]
    generalize rdB L i = b at *
    unfold chkFrom
    have hj : ∀ z : Bool, (z = true ↔ (b.f0 < -1 ∨ b.f0 ≥ i)) → Ev (fun k => bones_Check.j1 k L L.length i z b.f0 b.f1.f0 b.f1.f1 b.f1.f2) (if chkB i b = 0 then chkFrom (i + 1) (L.drop (i + 1)) else chkB i b) := by
      intro z hz
      cases z
      · have hno : ¬ (b.f0 < -1 ∨ b.f0 ≥ i) := fun h => by have := hz.2 h; simp at this
        have hchk : chkB i b = if far b.f1.f0 ∨ far b.f1.f1 ∨ far b.f1.f2 then 1 else 0 := by unfold chkB; rw [if_neg hno]
        have hR1 : (far b.f1.f0 ∨ far b.f1.f1 ∨ far b.f1.f2) → (if chkB i b = 0 then chkFrom (i + 1) (L.drop (i + 1)) else chkB i b) = 1 := by
          intro h; rw [hchk, if_pos h, if_neg (by omega)]
        have hR0 : ¬ (far b.f1.f0 ∨ far b.f1.f1 ∨ far b.f1.f2) → (if chkB i b = 0 then chkFrom (i + 1) (L.drop (i + 1)) else chkB i b) = chkFrom (i + 1) (L.drop (i + 1)) := by
          intro h; rw [hchk, if_neg h, if_pos rfl]
        generalize (if chkB i b = 0 then chkFrom (i + 1) (L.drop (i + 1)) else chkB i b) = R at *
        refine Ev.step (fun k => by rw [bones_Check.j1, if_neg (by simp)]) ?_
        refine chk_one _ _ _ 0 _ _ _ (by omega) _ rfl _ ?_
        rw [if_pos rfl]
        by_cases c0 : far b.f1.f0
        · rw [if_pos c0]; exact hR1 (.inl c0)
        · rw [if_neg c0]
          refine chk_one _ _ _ (0 + 1) _ _ _ (by omega) _ rfl _ ?_
          rw [if_neg (show ¬ ((0 : Int) + 1 = 0) by omega), if_pos (show (0 : Int) + 1 = 1 by omega)]
          by_cases c1 : far b.f1.f1
          · rw [if_pos c1]; exact hR1 (.inr (.inl c1))
          · rw [if_neg c1]
            refine chk_one _ _ _ (0 + 1 + 1) _ _ _ (by omega) _ rfl _ ?_
            rw [if_neg (show ¬ ((0 : Int) + 1 + 1 = 0) by omega), if_neg (show ¬ ((0 : Int) + 1 + 1 = 1) by omega)]
            by_cases c2 : far b.f1.f2
            · rw [if_pos c2]; exact hR1 (.inr (.inr c2))
            · rw [if_neg c2]
              rw [hR0 (by rintro (h | h | h) <;> contradiction)]
              exact Ev.step (fun k => by rw [bones_Check.l1, if_neg (by omega), wrap_in (x := (i : Int) + 1) (by omega) (by omega)]) h2
      · have hyes := hz.1 rfl
        have hchk : chkB i b = 9 := by unfold chkB; rw [if_pos hyes]
        rw [hchk, if_neg (by omega)]
        exact Ev.step (f := fun _ => some 9) (fun k => by rw [bones_Check.j1, if_pos rfl]) (Ev.now _)
    by_cases c : b.f0 < -1
    · exact Ev.step (fun k => by rw [hs, if_pos c]) (hj true (by simp; omega))
    · exact Ev.step (fun k => by rw [hs, if_neg c]) (hj _ (by rw [decide_eq_true_eq]; omega))
theorem check_ev (L : List Bn) : Ev (fun k => bones_Check.f k L) (checkV L) := by
  unfold bones_Check.f checkV
  by_cases h : (L.length : Int) > 40
  · simp only [if_pos h]; exact Ev.now _
  · simp only [if_neg h]
    exact chk_l0 L (by omega) L.length 0 (by omega)

/-! ### fitting -/
def wide (x : Int) : Prop := x > 131072 ∨ x < -131072
instance (x : Int) : Decidable (wide x) := by unfold wide; exact inferInstance
def parts (q : Qt) : List Int := [q.f0, q.f1, q.f2, q.f3]
def okQt (q : Qt) : Prop := ∀ x ∈ parts q, ¬ wide x
instance (q : Qt) : Decidable (okQt q) := by unfold okQt; exact inferInstance
def fitV (L : List Bn) (P : List Qt) : Int := if checkV L = 0 then (if (P.length : Int) = L.length then (if ∀ q ∈ P, okQt q then 0 else 1) else 3) else checkV L

theorem fit_l1 (P : List Qt) (m i : Int) (ys : List Int) (hy : ys.length ≤ 100) (hi : 0 ≤ i ∧ i ≤ 4611686018427387904) (R : Int) : ∀ n j : Nat, j + n = ys.length →
    (if ∀ y ∈ ys.drop j, ¬ wide y then Ev (fun k => bones_fitting.l0 k P m (i + 1)) R else R = 1) → Ev (fun k => bones_fitting.l1 k P m i ys ys.length j) R := by
  intro n
  induction n with
  | zero =>
    intro j hj h
    rw [List.drop_eq_nil_of_le (by omega), if_pos (by simp)] at h
    exact Ev.step (fun k => by rw [bones_fitting.l1, if_neg (by omega), wrap_in (x := i + 1) (by omega) (by omega)]) h
  | succ n ih =>
    intro j hj h
    have hd : ys.drop j = rd ys j :: ys.drop (j + 1) := by
      rw [List.drop_eq_getElem_cons (by omega)]
      congr 1
      simp [rd, show j < ys.length by omega]
    have hs : ∀ k, bones_fitting.l1 (k + 1) P m i ys ys.length j = if rd ys j > 131072 then some 1 else if rd ys j < -131072 then some 1 else bones_fitting.l1 k P m i ys ys.length (j + 1) := by
      intro k
      rw [bones_fitting.l1, if_pos (by omega), if_pos (by omega), if_pos (by omega), wrap_in (x := (j : Int) + 1) (by omega) (by omega)]
    rw [hd] at h
    have h2 := ih (j + 1) (by omega)
    rw [show (((j + 1 : Nat) : Int)) = (j : Int) + 1 by omega] at h2
    generalize rd ys j = y at *
    by_cases c : wide y
    · rw [if_neg (fun g => g y (List.mem_cons_self ..) c)] at h
      subst h
      refine Ev.step (f := fun _ => some 1) (fun k => ?_) (Ev.now _)
      rw [hs]
      unfold wide at c
      by_cases c1 : y > 131072
      · rw [if_pos c1]
      · rw [if_neg c1, if_pos (by omega)]
    · refine Ev.step (fun k => by rw [hs, if_neg (fun g => c (.inl g)), if_neg (fun g => c (.inr g))]) (h2 ?_)
      by_cases d : ∀ z ∈ ys.drop (j + 1), ¬ wide z
      · rw [if_pos d]; rwa [if_pos (by intro z hz; rcases List.mem_cons.mp hz with rfl | hz; exact c; exact d z hz)] at h
      · rw [if_neg d]; rwa [if_neg (fun g => d fun z hz => g z (List.mem_cons_of_mem _ hz))] at h

theorem fit_l0 (P : List Qt) (hP : P.length ≤ 1000) : ∀ n i : Nat, i + n = P.length → Ev (fun k => bones_fitting.l0 k P P.length i) (if ∀ q ∈ P.drop i, okQt q then 0 else 1) := by
  intro n
  induction n with
  | zero =>
    intro i hi
    rw [List.drop_eq_nil_of_le (by omega), if_pos (by simp)]
    exact Ev.step (f := fun _ => some 0) (fun k => by rw [bones_fitting.l0, if_neg (by omega)]) (Ev.now _)
  | succ n ih =>
    intro i hi
    have hd : P.drop i = rdQ P i :: P.drop (i + 1) := by rw [List.drop_eq_getElem_cons (by omega), rdQ_get P i (by omega)]
    have h2 := ih (i + 1) (by omega)
    rw [show (((i + 1 : Nat) : Int)) = (i : Int) + 1 by omega] at h2
    have hs : ∀ k, bones_fitting.l0 (k + 1) P P.length i = bones_fitting.l1 k P P.length i (parts (rdQ P i)) (parts (rdQ P i)).length 0 := by
      intro k
      rw [bones_fitting.l0, if_pos (by omega), if_pos (by omega), if_pos (by omega)]
      rfl
    rw [hd]
    generalize rdQ P i = q at *
    refine Ev.step hs (fit_l1 P P.length i (parts q) (by simp [parts]) (by omega) _ (parts q).length 0 (by omega) ?_)
    rw [List.drop_zero]
    by_cases c : okQt q
    · rw [if_pos (show ∀ y ∈ parts q, ¬ wide y from c)]
      by_cases d : ∀ z ∈ P.drop (i + 1), okQt z
      · rw [if_pos d] at h2
        rw [if_pos (by intro z hz; rcases List.mem_cons.mp hz with rfl | hz; exact c; exact d z hz)]
        exact h2
      · rw [if_neg d] at h2
        rw [if_neg (fun g => d fun z hz => g z (List.mem_cons_of_mem _ hz))]
        exact h2
    · rw [if_neg (show ¬ ∀ y ∈ parts q, ¬ wide y from c), if_neg (fun g => c (g q (List.mem_cons_self ..)))]

theorem fitting_ev (L : List Bn) (P : List Qt) : Ev (fun k => bones_fitting.f k L P) (fitV L P) := by
  unfold bones_fitting.f fitV
  refine Ev.bind (check_ev L) ?_
  by_cases h : checkV L = 0
  · simp only [if_pos h]
    by_cases h1 : (P.length : Int) = L.length
    · simp only [if_pos h1]
      have h40 : (L.length : Int) ≤ 40 := by
        unfold checkV at h
        by_cases c : (L.length : Int) > 40
        · rw [if_pos c] at h; omega
        · omega
      exact fit_l0 P (by omega) P.length 0 (by omega)
    · simp only [if_neg h1]; exact Ev.now _
  · simp only [if_neg h]; exact Ev.now _

theorem okS_check {L : List Bn} (h : okS L) (hl : L.length ≤ 5) : checkV L = 0 := by
  unfold checkV
  rw [if_neg (by omega)]
  have key : ∀ (n i : Nat), i + n = L.length → chkFrom i (L.drop i) = 0 := by
    intro n
    induction n with
    | zero => intro i hi; rw [List.drop_eq_nil_of_le (by omega)]; rfl
    | succ n ih =>
      intro i hi
      have hb := okS_rd h i (by omega)
      rw [List.drop_eq_getElem_cons (by omega), ← rdB_get L i (by omega)]
      have h2 := ih (i + 1) (by omega)
      rw [show (((i + 1 : Nat) : Int)) = (i : Int) + 1 by omega] at h2
      unfold okB at hb
      unfold chkFrom
      have : chkB i (rdB L i) = 0 := by
        unfold chkB far
        rw [if_neg (by omega), if_neg (by omega)]
      rw [if_pos this]
      exact h2
  exact key L.length 0 (by omega)
end Go.Proofs.Ytfallkiaojefnaa.SkelBonesLong
