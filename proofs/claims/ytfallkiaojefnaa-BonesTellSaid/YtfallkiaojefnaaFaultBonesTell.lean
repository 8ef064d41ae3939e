/- tourref5.BonesFault says what bones.fitting says, pose by pose. Under no condition. -/
import Derived.Test.YtfallkiaojefnaaSkelBonesTell
namespace Go.Proofs.Ytfallkiaojefnaa.FaultBonesTell
open Go.RowKit Go.Proofs.YtfallkiaojefnaaW.PrintWords Go.Proofs.YtfallkiaojefnaaW.PrintLast Go.Proofs.YtfallkiaojefnaaW.PrintMore Go.Proofs.Ytfallkiaojefnaa.Ext Go.Proofs.Ytfallkiaojefnaa.PBonesTell Go.Proofs.Ytfallkiaojefnaa.NumBonesTell Go.Proofs.Ytfallkiaojefnaa.SrcBonesTell Go.Proofs.Ytfallkiaojefnaa.SkelBonesTell
set_option linter.unusedVariables false

def poseV (n : Nat) (P : List Qt) : Int := if (P.length : Int) = n then (if ∀ q ∈ P, okQt q then 0 else 1) else 3
def posesV (n : Nat) : List (List Qt) → Int
  | [] => 0
  | P :: PS => if poseV n P = 0 then posesV n PS else poseV n P
def faultPV (L : List Bn) (PS : List (List Qt)) : Int := if checkV L = 0 then posesV L.length PS else checkV L
theorem fitV_eq (L : List Bn) (P : List Qt) : faultPV L [P] = fitV L P := by
  unfold faultPV fitV posesV posesV poseV
  have g : ∀ x : Int, (if x = 0 then 0 else x) = x := by intro x; split <;> simp_all
  by_cases h : checkV L = 0
  · rw [if_pos h, if_pos h, g]
  · rw [if_neg h, if_neg h]

abbrev rdL := rd_L5
theorem rdL_get (L : List (List Qt)) (i : Nat) (h : i < L.length) : rdL L i = L[i] := by simp [rdL, rd_L5, h]

theorem f_l4 (L : List Bn) (PS : List (List Qt)) (m i : Int) (X : List Qt) (u : Int) (hu : 0 ≤ u ∧ u ≤ 4611686018427387904) (ys : List Int) (hy : ys.length ≤ 100) (R : Int) : ∀ n j : Nat, j + n = ys.length →
    (if ∀ y ∈ ys.drop j, ¬ wide y then Ev (fun k => tourref5_BonesFault.l3 k L PS m i X X.length (u + 1)) R else R = 1) → Ev (fun k => tourref5_BonesFault.l4 k L PS m i X X.length u ys ys.length j) R := by
  intro n
  induction n with
  | zero =>
    intro j hj h
    rw [List.drop_eq_nil_of_le (by omega), if_pos (by simp)] at h
    exact Ev.step (fun k => by rw [tourref5_BonesFault.l4, if_neg (by omega), wrap_in (x := u + 1) (by omega) (by omega)]) h
  | succ n ih =>
    intro j hj h
    have hd : ys.drop j = rd ys j :: ys.drop (j + 1) := by
      rw [List.drop_eq_getElem_cons (by omega)]
      congr 1
      simp [rd, show j < ys.length by omega]
    have hs : ∀ k, tourref5_BonesFault.l4 (k + 1) L PS m i X X.length u ys ys.length j = if rd ys j < -131072 then some 1 else if rd ys j > 131072 then some 1 else tourref5_BonesFault.l4 k L PS m i X X.length u ys ys.length (j + 1) := by
      intro k
      rw [tourref5_BonesFault.l4, if_pos (by omega), if_pos (by omega), if_pos (by omega), wrap_in (x := (j : Int) + 1) (by omega) (by omega)]
    rw [hd] at h
    have h2 := ih (j + 1) (by omega)
    rw [show (((j + 1 : Nat) : Int)) = (j : Int) + 1 by omega] at h2
    generalize rd ys j = y at *
    by_cases c : wide y
    · rw [if_neg (fun g => g y (List.mem_cons_self ..) c)] at h
      subst h
      refine Ev.step (f := fun _ => some 1) (fun k => ?_) (Ev.now _)
      rw [hs]
      unfold wide at c
      by_cases c1 : y < -131072
      · rw [if_pos c1]
      · rw [if_neg c1, if_pos (by omega)]
    · refine Ev.step (fun k => by rw [hs, if_neg (fun g => c (.inr g)), if_neg (fun g => c (.inl g))]) (h2 ?_)
      by_cases d : ∀ z ∈ ys.drop (j + 1), ¬ wide z
      · rw [if_pos d]; rwa [if_pos (by intro z hz; rcases List.mem_cons.mp hz with rfl | hz; exact c; exact d z hz)] at h
      · rw [if_neg d]; rwa [if_neg (fun g => d fun z hz => g z (List.mem_cons_of_mem _ hz))] at h

theorem f_l3 (L : List Bn) (PS : List (List Qt)) (m i : Int) (hi : 0 ≤ i ∧ i ≤ 4611686018427387904) (X : List Qt) (hX : X.length ≤ 1000) (R : Int) : ∀ n u : Nat, u + n = X.length →
    (if ∀ q ∈ X.drop u, okQt q then Ev (fun k => tourref5_BonesFault.l2 k L PS m (i + 1)) R else R = 1) → Ev (fun k => tourref5_BonesFault.l3 k L PS m i X X.length u) R := by
  intro n
  induction n with
  | zero =>
    intro u hu h
    rw [List.drop_eq_nil_of_le (by omega), if_pos (by simp)] at h
    exact Ev.step (fun k => by rw [tourref5_BonesFault.l3, if_neg (by omega), wrap_in (x := i + 1) (by omega) (by omega)]) h
  | succ n ih =>
    intro u hu h
    have hd : X.drop u = rdQ X u :: X.drop (u + 1) := by rw [List.drop_eq_getElem_cons (by omega), rdQ_get X u (by omega)]
    have h2 := ih (u + 1) (by omega)
    rw [show (((u + 1 : Nat) : Int)) = (u : Int) + 1 by omega] at h2
    have hs : ∀ k, tourref5_BonesFault.l3 (k + 1) L PS m i X X.length u = tourref5_BonesFault.l4 k L PS m i X X.length u (parts (rdQ X u)) (parts (rdQ X u)).length 0 := by
      intro k
      rw [tourref5_BonesFault.l3, if_pos (by omega), if_pos (by omega), if_pos (by omega)]
      rfl
    rw [hd] at h
    generalize rdQ X u = q at *
    refine Ev.step hs (f_l4 L PS m i X u (by omega) (parts q) (by simp [parts]) R (parts q).length 0 (by omega) ?_)
    rw [List.drop_zero]
    by_cases c : okQt q
    · rw [if_pos (show ∀ y ∈ parts q, ¬ wide y from c)]
      refine h2 ?_
      by_cases d : ∀ z ∈ X.drop (u + 1), okQt z
      · rw [if_pos d]; rwa [if_pos (by intro z hz; rcases List.mem_cons.mp hz with rfl | hz; exact c; exact d z hz)] at h
      · rw [if_neg d]; rwa [if_neg (fun g => d fun z hz => g z (List.mem_cons_of_mem _ hz))] at h
    · rw [if_neg (show ¬ ∀ y ∈ parts q, ¬ wide y from c)]
      rwa [if_neg (fun g => c (g q (List.mem_cons_self ..)))] at h

theorem f_l2 (L : List Bn) (hL : L.length ≤ 40) (PS : List (List Qt)) (hP : PS.length ≤ 100) : ∀ n i : Nat, i + n = PS.length → Ev (fun k => tourref5_BonesFault.l2 k L PS PS.length i) (posesV L.length (PS.drop i)) := by
  intro n
  induction n with
  | zero =>
    intro i hi
    rw [List.drop_eq_nil_of_le (by omega)]
    exact Ev.step (f := fun _ => some 0) (fun k => by rw [tourref5_BonesFault.l2, if_neg (by omega)]) (Ev.now _)
  | succ n ih =>
    intro i hi
    have hd : PS.drop i = rdL PS i :: PS.drop (i + 1) := by rw [List.drop_eq_getElem_cons (by omega), rdL_get PS i (by omega)]
    have h2 := ih (i + 1) (by omega)
    rw [show (((i + 1 : Nat) : Int)) = (i : Int) + 1 by omega] at h2
    have hs : ∀ k, tourref5_BonesFault.l2 (k + 1) L PS PS.length i = if ((rdL PS i).length : Int) = L.length then tourref5_BonesFault.l3 k L PS PS.length i (rdL PS i) (rdL PS i).length 0 else some 3 := by
      intro k
      rw [tourref5_BonesFault.l2, if_pos (by omega), if_pos (by omega), if_pos (by omega)]
    rw [hd]
    generalize rdL PS i = X at *
    unfold posesV
    by_cases c : (X.length : Int) = L.length
    · refine Ev.step (fun k => by rw [hs, if_pos c]; rfl) (f_l3 L PS PS.length i (by omega) X (by omega) _ X.length 0 (by omega) ?_)
      rw [List.drop_zero]
      unfold poseV
      by_cases d : ∀ q ∈ X, okQt q
      · rw [if_pos d, if_pos c, if_pos d, if_pos rfl]; exact h2
      · rw [if_neg d, if_pos c, if_neg d, if_neg (by omega)]
    · unfold poseV
      rw [if_neg c, if_neg (by omega)]
      exact Ev.step (f := fun _ => some 3) (fun k => by rw [hs, if_neg c]) (Ev.now _)

theorem f_one (L : List Bn) (PS : List (List Qt)) (m i x a b c : Int) (hx : x = 0 ∨ x = 1 ∨ x = 2) (v : Int) (hv : v = if x = 0 then a else if x = 1 then b else c) (R : Int) (h : if far v then R = 1 else Ev (fun k => tourref5_BonesFault.l1 k L PS L m i (x + 1) a b c) R) : Ev (fun k => tourref5_BonesFault.l1 k L PS L m i x a b c) R := by
  have hs : ∀ k, tourref5_BonesFault.l1 (k + 1) L PS L m i x a b c = if v < -65536000 then some 1 else if v > 65536000 then some 1 else tourref5_BonesFault.l1 k L PS L m i (x + 1) a b c := by
    intro k
    rw [tourref5_BonesFault.l1, if_pos (by omega), wrap_in (x := x + 1) (by omega) (by omega)]
    rcases hx with rfl | rfl | rfl
    · rw [if_pos rfl]; rw [if_pos rfl] at hv; rw [hv]
    · rw [if_neg (by omega), if_pos rfl]; rw [if_neg (by omega), if_pos rfl] at hv; rw [hv]
    · rw [if_neg (by omega), if_neg (by omega), if_pos rfl]; rw [if_neg (by omega), if_neg (by omega)] at hv; rw [hv]
  by_cases c : far v
  · rw [if_pos c] at h
    subst h
    refine Ev.step (f := fun _ => some 1) (fun k => ?_) (Ev.now _)
    rw [hs]
    unfold far at c
    by_cases c1 : v < -65536000
    · rw [if_pos c1]
    · rw [if_neg c1, if_pos (by omega)]
  · rw [if_neg c] at h
    unfold far at c
    exact Ev.step (fun k => by rw [hs, if_neg (by omega), if_neg (by omega)]) h

theorem f_l0 (L : List Bn) (hL : L.length ≤ 40) (PS : List (List Qt)) (R : Int) : ∀ n i : Nat, i + n = L.length → (if chkFrom i (L.drop i) = 0 then Ev (fun k => tourref5_BonesFault.l2 k L PS PS.length 0) R else R = chkFrom i (L.drop i)) → Ev (fun k => tourref5_BonesFault.l0 k L PS L L.length i) R := by
  intro n
  induction n with
  | zero =>
    intro i hi h
    rw [List.drop_eq_nil_of_le (by omega)] at h
    rw [show chkFrom i [] = 0 from rfl, if_pos rfl] at h
    exact Ev.step (fun k => by rw [tourref5_BonesFault.l0, if_neg (by omega)]) h
  | succ n ih =>
    intro i hi
    have hd : L.drop i = rdB L i :: L.drop (i + 1) := by rw [List.drop_eq_getElem_cons (by omega), rdB_get L i (by omega)]
    have h2 := ih (i + 1) (by omega)
    rw [show (((i + 1 : Nat) : Int)) = (i : Int) + 1 by omega] at h2
    have hs : ∀ k, tourref5_BonesFault.l0 (k + 1) L PS L L.length i = if (rdB L i).f0 ≥ i then tourref5_BonesFault.j1 k L PS L L.length i true (rdB L i).f0 (rdB L i).f1.f0 (rdB L i).f1.f1 (rdB L i).f1.f2 else tourref5_BonesFault.j1 k L PS L L.length i (decide ((rdB L i).f0 < -1)) (rdB L i).f0 (rdB L i).f1.f0 (rdB L i).f1.f1 (rdB L i).f1.f2 := by
      intro k
      rw [tourref5_BonesFault.l0, if_pos (by omega), if_pos (by omega), if_pos (by omega)]
    rw [hd]
    generalize rdB L i = b at *
    intro h
    unfold chkFrom at h
    have hj : ∀ z : Bool, (z = true ↔ (b.f0 < -1 ∨ b.f0 ≥ i)) → Ev (fun k => tourref5_BonesFault.j1 k L PS L L.length i z b.f0 b.f1.f0 b.f1.f1 b.f1.f2) R := by
      intro z hz
      cases z
      · have hno : ¬ (b.f0 < -1 ∨ b.f0 ≥ i) := fun h => by have := hz.2 h; simp at this
        have hchk : chkB i b = if far b.f1.f0 ∨ far b.f1.f1 ∨ far b.f1.f2 then 1 else 0 := by unfold chkB; rw [if_neg hno]
        have hR1 : (far b.f1.f0 ∨ far b.f1.f1 ∨ far b.f1.f2) → R = 1 := by
          intro g; rw [if_pos g] at hchk; simp only [hchk] at h; simpa using h
        refine Ev.step (fun k => by rw [tourref5_BonesFault.j1, if_neg (by simp)]) ?_
        refine f_one L PS _ _ 0 _ _ _ (by omega) _ rfl _ ?_
        rw [if_pos rfl]
        by_cases c0 : far b.f1.f0
        · rw [if_pos c0]; exact hR1 (.inl c0)
        · rw [if_neg c0]
          refine f_one L PS _ _ (0 + 1) _ _ _ (by omega) _ rfl _ ?_
          rw [if_neg (show ¬ ((0 : Int) + 1 = 0) by omega), if_pos (show (0 : Int) + 1 = 1 by omega)]
          by_cases c1 : far b.f1.f1
          · rw [if_pos c1]; exact hR1 (.inr (.inl c1))
          · rw [if_neg c1]
            refine f_one L PS _ _ (0 + 1 + 1) _ _ _ (by omega) _ rfl _ ?_
            rw [if_neg (show ¬ ((0 : Int) + 1 + 1 = 0) by omega), if_neg (show ¬ ((0 : Int) + 1 + 1 = 1) by omega)]
            by_cases c2 : far b.f1.f2
            · rw [if_pos c2]; exact hR1 (.inr (.inr c2))
            · rw [if_neg c2]
              rw [if_neg (show ¬ (far b.f1.f0 ∨ far b.f1.f1 ∨ far b.f1.f2) by rintro (h | h | h) <;> contradiction)] at hchk
              simp only [hchk, if_true] at h
              exact Ev.step (fun k => by rw [tourref5_BonesFault.l1, if_neg (by omega), wrap_in (x := (i : Int) + 1) (by omega) (by omega)]) (h2 h)
      · have hchk : chkB i b = 9 := by unfold chkB; rw [if_pos (hz.1 rfl)]
        simp only [hchk] at h
        have h9 : R = 9 := by simpa using h
        subst h9
        exact Ev.step (f := fun _ => some 9) (fun k => by rw [tourref5_BonesFault.j1, if_pos rfl]) (Ev.now _)
    by_cases c : b.f0 ≥ i
    · exact Ev.step (fun k => by rw [hs, if_pos c]) (hj true (by simp; omega))
    · exact Ev.step (fun k => by rw [hs, if_neg c]) (hj _ (by rw [decide_eq_true_eq]; omega))

theorem fault_ev (L : List Bn) (PS : List (List Qt)) (hP : PS.length ≤ 100) : Ev (fun k => tourref5_BonesFault.f k L PS) (faultPV L PS) := by
  unfold tourref5_BonesFault.f faultPV checkV
  by_cases h : (L.length : Int) > 40
  · simp only [if_pos h]; exact Ev.now _
  · simp only [if_neg h]
    refine f_l0 L (by omega) PS _ L.length 0 (by omega) ?_
    rw [List.drop_zero, show (((0 : Nat) : Int)) = 0 from rfl]
    by_cases c : chkFrom 0 L = 0
    · rw [if_pos c, if_pos c]
      exact f_l2 L (by omega) PS hP PS.length 0 (by omega)
    · rw [if_neg c, if_neg c]
end Go.Proofs.Ytfallkiaojefnaa.FaultBonesTell
