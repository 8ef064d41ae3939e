/- What the law BonesTell computes is true, whatever the skeleton, the poses and the time. Under no condition. -/
import Derived.Test.YtfallkiaojefnaaFaultBonesTell
import Derived.Test.YtfallkiaojefnaaQUnitBonesTell
import Derived.Test.YtfallkiaojefnaaOpen
namespace Go.Proofs.Ytfallkiaojefnaa.PureBonesTell
open Go.RowKit Go.Proofs.YtfallkiaojefnaaW.PrintWords Go.Proofs.YtfallkiaojefnaaW.PrintLast Go.Proofs.YtfallkiaojefnaaW.PrintMore Go.Proofs.Ytfallkiaojefnaa.PBonesTell Go.Proofs.Ytfallkiaojefnaa.NumBonesTell Go.Proofs.Ytfallkiaojefnaa.SrcBonesTell Go.Proofs.Ytfallkiaojefnaa.SkelBonesTell Go.Proofs.Ytfallkiaojefnaa.FaultBonesTell Go.Proofs.Ytfallkiaojefnaa.QUnitBonesTell
set_option linter.unusedVariables false

/-! ### bones.Blend -/
noncomputable def mixQ (a b : Qt) (t : Int) : Int × Int × Int × Int := qblendV a.f0 a.f1 a.f2 a.f3 b.f0 b.f1 b.f2 b.f3 t
noncomputable def mixes (A B : List Qt) (t : Int) (n : Nat) : List Qt := (List.range n).map fun (i : Nat) => ⟨(mixQ (rdQ A i) (rdQ B i) t).1, (mixQ (rdQ A i) (rdQ B i) t).2.1, (mixQ (rdQ A i) (rdQ B i) t).2.2.1, (mixQ (rdQ A i) (rdQ B i) t).2.2.2⟩
theorem mixes_len (A B : List Qt) (t : Int) (n : Nat) : (mixes A B t n).length = n := by simp [mixes]
theorem mixes_succ (A B : List Qt) (t : Int) (n : Nat) : mixes A B t (n + 1) = mixes A B t n ++ [⟨(mixQ (rdQ A n) (rdQ B n) t).1, (mixQ (rdQ A n) (rdQ B n) t).2.1, (mixQ (rdQ A n) (rdQ B n) t).2.2.1, (mixQ (rdQ A n) (rdQ B n) t).2.2.2⟩] := by simp [mixes, List.range_succ]
theorem mixes_rd (A B : List Qt) (t : Int) (n i : Nat) (h : i < n) : rdQ (mixes A B t n) i = ⟨(mixQ (rdQ A i) (rdQ B i) t).1, (mixQ (rdQ A i) (rdQ B i) t).2.1, (mixQ (rdQ A i) (rdQ B i) t).2.2.1, (mixQ (rdQ A i) (rdQ B i) t).2.2.2⟩ := by
  rw [rdQ_get _ _ (by rw [mixes_len]; exact h)]
  simp [mixes]
theorem blend_l0 (A B : List Qt) (t : Int) (n : Nat) (hn : n ≤ 40) (hA : A.length = n) (hB : B.length = n) : ∀ d i : Nat, i + d = n → Ev (fun k => bones_Blend.l0 k A B t (mixes A B t i) n i) (mixes A B t n, 0) := by
  intro d
  induction d with
  | zero =>
    intro i hi
    obtain rfl : i = n := by omega
    exact Ev.step (f := fun _ => some (mixes A B t i, 0)) (fun k => by rw [bones_Blend.l0, if_neg (by omega)]) (Ev.now _)
  | succ d ih =>
    intro i hi
    have h2 := ih (i + 1) (by omega)
    rw [show (((i + 1 : Nat) : Int)) = (i : Int) + 1 by omega, mixes_succ] at h2
    have w : wrap64 ((i : Int) + 1) = i + 1 := wrap_in (by omega) (by omega)
    have hl := mixes_len A B t i
    refine Ev.step (fun k => by rw [bones_Blend.l0, if_pos (by omega), if_pos (by omega), if_pos (by omega), if_pos (by omega)]) ?_
    refine Ev.bind (qblend_ev _ _ _ _ _ _ _ _ _) ?_
    simp only [if_pos (show (mixes A B t i).length < 4398046511104 by omega), w]
    exact h2
theorem fit_len {L : List Bn} {P : List Qt} (h : fitV L P = 0) : checkV L = 0 ∧ P.length = L.length ∧ L.length ≤ 40 := by
  unfold fitV at h
  by_cases c : checkV L = 0
  · rw [if_pos c] at h
    by_cases d : (P.length : Int) = L.length
    · refine ⟨c, by omega, ?_⟩
      unfold checkV at c
      by_cases e : (L.length : Int) > 40
      · rw [if_pos e] at c; omega
      · omega
    · rw [if_neg d] at h; omega
  · rw [if_neg c] at h; exact absurd h c
/-- What Blend says is wrong. -/
def blendE (L : List Bn) (A B : List Qt) (t : Int) : Int := if fitV L A = 0 then (if fitV L B = 0 then (if t < 0 ∨ t > 65536 then 1 else 0) else fitV L B) else fitV L A
noncomputable def blendV (L : List Bn) (A B : List Qt) (t : Int) : List Qt × Int := if blendE L A B t = 0 then (mixes A B t L.length, 0) else ([], blendE L A B t)
theorem blend_ev (L : List Bn) (A B : List Qt) (t : Int) : Ev (fun k => bones_Blend.f k L A B t) (blendV L A B t) := by
  unfold bones_Blend.f blendV blendE
  refine Ev.bind (fitting_ev L A) ?_
  by_cases a : fitV L A = 0
  · simp only [if_pos a]
    refine Ev.bind (fitting_ev L B) ?_
    by_cases b : fitV L B = 0
    · simp only [if_pos b]
      have hj : ∀ z : Bool, (z = true ↔ (t < 0 ∨ t > 65536)) → Ev (fun k => bones_Blend.j0 k L A B t z) (if (if t < 0 ∨ t > 65536 then (1 : Int) else 0) = 0 then (mixes A B t L.length, 0) else ([], if t < 0 ∨ t > 65536 then 1 else 0)) := by
        intro z hz
        cases z
        · rw [if_neg (c := t < 0 ∨ t > 65536) (fun g => by have := hz.2 g; simp at this), if_pos rfl]
          refine Ev.step (fun k => by rw [bones_Blend.j0, if_neg (by simp)]) ?_
          exact blend_l0 A B t L.length (fit_len a).2.2 (fit_len a).2.1 (fit_len b).2.1 L.length 0 (by omega)
        · rw [if_pos (hz.1 rfl), if_neg (by omega)]
          exact Ev.step (f := fun _ => some ([], 1)) (fun k => by rw [bones_Blend.j0, if_pos rfl]) (Ev.now _)
      by_cases c : t < 0
      · simp only [if_pos c]
        have := hj true (by simp; omega)
        simpa only [if_pos (show t < 0 ∨ t > 65536 from .inl c)] using this
      · simp only [if_neg c]
        exact hj _ (by rw [decide_eq_true_eq]; omega)
    · simp only [if_neg b]; exact Ev.now _
  · simp only [if_neg a]; exact Ev.now _

/-! ### bones.Places -/
abbrev Pl := S39
abbrev rdP := rd_T39
theorem rdP_get (L : List Pl) (i : Nat) (h : i < L.length) : rdP L i = L[i] := by simp [rdP, rd_T39, h]
noncomputable def qmulV (a b c d e f g h : Int) : Int × Int × Int × Int := val fun k => quat_Mul.f k a b c d e f g h
theorem qmulV_ev (a b c d e f g h : Int) : Ev (fun k => quat_Mul.f k a b c d e f g h) (qmulV a b c d e f g h) := val_ev ⟨_, qmul_ev a b c d e f g h⟩
noncomputable def qbackV (a b c d x y z : Int) : Int × Int × Int × Int := qmulV (qmulV a b c d 0 x y z).1 (qmulV a b c d 0 x y z).2.1 (qmulV a b c d 0 x y z).2.2.1 (qmulV a b c d 0 x y z).2.2.2 (clampV a) (wrap64 (-clampV b)) (wrap64 (-clampV c)) (wrap64 (-clampV d))
theorem qturn_total (a b c d x y z : Int) : ∃ r, Ev (fun k => quat_Turn.f k a b c d x y z) r := by
  refine ⟨((qbackV a b c d x y z).2.1, (qbackV a b c d x y z).2.2.1, (qbackV a b c d x y z).2.2.2), ?_⟩
  unfold quat_Turn.f quat_Back.f
  refine Ev.bind (qmulV_ev _ _ _ _ _ _ _ _) ?_
  simp only [clamp_eq, Option.bind_some]
  exact Ev.bind (qmulV_ev _ _ _ _ _ _ _ _) (Ev.now _)
noncomputable def qturnV (a b c d x y z : Int) : Int × Int × Int := val fun k => quat_Turn.f k a b c d x y z
theorem qturn_ev (a b c d x y z : Int) : Ev (fun k => quat_Turn.f k a b c d x y z) (qturnV a b c d x y z) := val_ev (qturn_total a b c d x y z)
theorem addV_comm (a b : Int) : addV a b = addV b a := by unfold addV; rw [Int.add_comm]

noncomputable def ownQ (q : Qt) : Int × Int × Int × Int := qunitV q.f0 q.f1 q.f2 q.f3
noncomputable def turnB (b : Bn) (u : Pl) : Int × Int × Int := qturnV u.f1.f0 u.f1.f1 u.f1.f2 u.f1.f3 b.f1.f0 b.f1.f1 b.f1.f2
noncomputable def mulB (u : Pl) (o : Int × Int × Int × Int) : Int × Int × Int × Int := qmulV u.f1.f0 u.f1.f1 u.f1.f2 u.f1.f3 o.1 o.2.1 o.2.2.1 o.2.2.2
noncomputable def unitB (u : Pl) (o : Int × Int × Int × Int) : Int × Int × Int × Int := qunitV (mulB u o).1 (mulB u o).2.1 (mulB u o).2.2.1 (mulB u o).2.2.2
noncomputable def stepP (b : Bn) (o : Int × Int × Int × Int) (u : Pl) : Pl :=
  ⟨⟨addV u.f0.f0 (turnB b u).1, addV u.f0.f1 (turnB b u).2.1, addV u.f0.f2 (turnB b u).2.2⟩, ⟨(unitB u o).1, (unitB u o).2.1, (unitB u o).2.2.1, (unitB u o).2.2.2⟩⟩
noncomputable def rootP (b : Bn) (o : Int × Int × Int × Int) : Pl := ⟨⟨b.f1.f0, b.f1.f1, b.f1.f2⟩, ⟨o.1, o.2.1, o.2.2.1, o.2.2.2⟩⟩
noncomputable def placeN (L : List Bn) (P : List Qt) : Nat → Int → Pl
  | 0, _ => z39
  | n + 1, i => if (rdB L i).f0 < 0 then rootP (rdB L i) (ownQ (rdQ P i)) else stepP (rdB L i) (ownQ (rdQ P i)) (placeN L P n (rdB L i).f0)
/-- Each bone belongs to one before it. -/
def up (L : List Bn) : Prop := ∀ i : Nat, i < L.length → -1 ≤ (rdB L i).f0 ∧ (rdB L i).f0 < i
theorem chk_up : ∀ (L : List Bn) (i : Int), chkFrom i L = 0 → ∀ j : Nat, j < L.length → -1 ≤ (rdB L j).f0 ∧ (rdB L j).f0 < i + j := by
  intro L
  induction L with
  | nil => intro i _ j hj; exact absurd hj (by simp)
  | cons b L ih =>
    intro i h j hj
    unfold chkFrom at h
    by_cases c : chkB i b = 0
    · rw [if_pos c] at h
      cases j with
      | zero =>
        have e : rdB (b :: L) ((0 : Nat) : Int) = b := by rw [rdB_get _ 0 (by simp)]; rfl
        rw [e]
        unfold chkB at c
        by_cases d : b.f0 < -1 ∨ b.f0 ≥ i
        · rw [if_pos d] at c; omega
        · omega
      | succ j =>
        have e : rdB (b :: L) ((j + 1 : Nat) : Int) = rdB L j := by rw [rdB_get _ (j + 1) hj, rdB_get _ j (by simpa using hj)]; rfl
        rw [e]
        have := ih (i + 1) h j (by simpa using hj)
        omega
    · rw [if_neg c] at h; exact absurd h c
theorem check_up {L : List Bn} (h : checkV L = 0) : up L := by
  unfold checkV at h
  by_cases c : (L.length : Int) > 40
  · rw [if_pos c] at h; omega
  · rw [if_neg c] at h
    intro i hi
    have := chk_up L 0 h i hi
    omega
theorem place_more {L : List Bn} (hL : up L) (P : List Qt) : ∀ (n m i : Nat), i < n → i < m → i < L.length → placeN L P n i = placeN L P m i := by
  intro n
  induction n with
  | zero => intro m i h; omega
  | succ n ih =>
    intro m i h1 h2 h3
    obtain ⟨m, rfl⟩ : ∃ k, m = k + 1 := ⟨m - 1, by omega⟩
    unfold placeN
    by_cases c : (rdB L i).f0 < 0
    · rw [if_pos c, if_pos c]
    · rw [if_neg c, if_neg c]
      have hu := hL i h3
      obtain ⟨u, hu'⟩ : ∃ u : Nat, (rdB L i).f0 = u := ⟨(rdB L i).f0.toNat, by omega⟩
      rw [hu', ih m u (by omega) (by omega) (by omega)]
noncomputable def place (L : List Bn) (P : List Qt) (i : Nat) : Pl := placeN L P (i + 1) i
theorem place_eq {L : List Bn} (hL : up L) (P : List Qt) (i : Nat) (hi : i < L.length) : place L P i = if (rdB L i).f0 < 0 then rootP (rdB L i) (ownQ (rdQ P i)) else stepP (rdB L i) (ownQ (rdQ P i)) (place L P (rdB L i).f0.toNat) := by
  unfold place
  conv => lhs; unfold placeN
  by_cases c : (rdB L i).f0 < 0
  · rw [if_pos c, if_pos c]
  · rw [if_neg c, if_neg c]
    have hu := hL i hi
    obtain ⟨u, hu'⟩ : ∃ u : Nat, (rdB L i).f0 = u := ⟨(rdB L i).f0.toNat, by omega⟩
    rw [hu', Int.toNat_natCast, place_more hL P i (u + 1) u (by omega) (by omega) (by omega)]
noncomputable def placesTo (L : List Bn) (P : List Qt) (n : Nat) : List Pl := (List.range n).map (place L P)
theorem placesTo_len (L : List Bn) (P : List Qt) (n : Nat) : (placesTo L P n).length = n := by simp [placesTo]
theorem placesTo_rd (L : List Bn) (P : List Qt) (n i : Nat) (h : i < n) : rdP (placesTo L P n) i = place L P i := by
  rw [rdP_get _ _ (by rw [placesTo_len]; exact h)]
  simp [placesTo]
theorem placesTo_succ (L : List Bn) (P : List Qt) (n : Nat) : placesTo L P (n + 1) = placesTo L P n ++ [place L P n] := by simp [placesTo, List.range_succ]

theorem places_l1 (P : List Qt) (out : List Pl) (L : List Bn) (m i : Int) (b : V3) (o : Int × Int × Int × Int) (u : Pl) (t : Int × Int × Int) (R : List Pl × Int)
    (hl : out.length ≤ 1000) (hi : wrap64 (i + 1) = i + 1) (h : Ev (fun k => bones_Places.l0 k P (out ++ [(⟨⟨addV u.f0.f0 t.1, addV u.f0.f1 t.2.1, addV u.f0.f2 t.2.2⟩, ⟨(unitB u o).1, (unitB u o).2.1, (unitB u o).2.2.1, (unitB u o).2.2.2⟩⟩ : Pl)]) L m (i + 1)) R) :
    Ev (fun k => bones_Places.l1 k P out L m i 0 b.f0 b.f1 b.f2 o.1 o.2.1 o.2.2.1 o.2.2.2 u.f0.f0 u.f0.f1 u.f0.f2 u.f1.f0 u.f1.f1 u.f1.f2 u.f1.f3 t.1 t.2.1 t.2.2) R := by
  refine Ev.step (fun k => by rw [bones_Places.l1, if_pos (by omega), if_pos rfl, add_eq, Option.bind_some, w1]) ?_
  refine Ev.step (fun k => by rw [bones_Places.l1, if_pos (by omega), if_neg n10, if_pos rfl, add_eq, Option.bind_some, w2]) ?_
  refine Ev.step (fun k => by rw [bones_Places.l1, if_pos (by omega), if_neg n20, if_neg n21, if_pos rfl, add_eq, Option.bind_some, w3]) ?_
  refine Ev.step (fun k => by rw [bones_Places.l1, if_neg (by omega)]) ?_
  refine Ev.bind (qmulV_ev _ _ _ _ _ _ _ _) (Ev.bind (qunit_ev _ _ _ _) ?_)
  simp only [if_pos (show out.length < 2513169434916 by omega), hi]
  exact h

theorem places_l0 {L : List Bn} (hL : up L) (P : List Qt) (hP : P.length = L.length) (hn : L.length ≤ 40) : ∀ d i : Nat, i + d = L.length → Ev (fun k => bones_Places.l0 k P (placesTo L P i) L L.length i) (placesTo L P L.length, 0) := by
  intro d
  induction d with
  | zero =>
    intro i hi
    obtain rfl : i = L.length := by omega
    exact Ev.step (f := fun _ => some (placesTo L P L.length, 0)) (fun k => by rw [bones_Places.l0, if_neg (by omega)]) (Ev.now _)
  | succ d ih =>
    intro i hi
    have h2 := ih (i + 1) (by omega)
    rw [show (((i + 1 : Nat) : Int)) = (i : Int) + 1 by omega, placesTo_succ, place_eq hL P i (by omega)] at h2
    have w : wrap64 ((i : Int) + 1) = i + 1 := wrap_in (by omega) (by omega)
    have hl := placesTo_len L P i
    have hu := hL i (by omega)
    have hb : rd_T35 L (i : Int) = rdB L i := rfl
    have hq : rd_T37 P (i : Int) = rdQ P i := rfl
    refine Ev.step (fun k => by rw [bones_Places.l0, if_pos (by omega), if_pos (by omega), if_pos (by omega), if_pos (by omega), hb, hq]) ?_
    refine Ev.bind (qunit_ev _ _ _ _) ?_
    by_cases c : (rdB L i).f0 < 0
    · rw [if_pos c] at h2
      simp only [if_neg (show ¬ (rdB L i).f0 ≥ 0 by omega), if_pos (show (placesTo L P i).length < 2513169434916 by omega), w]
      exact h2
    · rw [if_neg c] at h2
      obtain ⟨u, hu'⟩ : ∃ u : Nat, (rdB L i).f0 = u := ⟨(rdB L i).f0.toNat, by omega⟩
      rw [hu', Int.toNat_natCast] at h2
      have hp : rd_T39 (placesTo L P i) (u : Int) = place L P u := placesTo_rd L P i u (by omega)
      simp only [hu', if_pos (show ((u : Nat) : Int) ≥ 0 by omega), if_pos (show ((u : Nat) : Int) < (placesTo L P i).length by omega), hp]
      refine Ev.bind (qturn_ev _ _ _ _ _ _ _) ?_
      exact places_l1 P (placesTo L P i) L L.length i (rdB L i).f1 (ownQ (rdQ P i)) (place L P u) (turnB (rdB L i) (place L P u)) _ (by omega) w h2

noncomputable def placesV (L : List Bn) (P : List Qt) : List Pl × Int := if fitV L P = 0 then (placesTo L P L.length, 0) else ([], fitV L P)
theorem places_ev (L : List Bn) (P : List Qt) : Ev (fun k => bones_Places.f k L P) (placesV L P) := by
  unfold bones_Places.f placesV
  refine Ev.bind (fitting_ev L P) ?_
  by_cases h : fitV L P = 0
  · simp only [if_pos h]
    have := fit_len h
    exact places_l0 (check_up this.1) P this.2.1 this.2.2 L.length 0 (by omega)
  · simp only [if_neg h]; exact Ev.now _

/-! ### the reference's places -/
theorem placeOf_ev {L : List Bn} (hL : up L) (P : List Qt) (hP : P.length = L.length) (hn : L.length ≤ 40) : ∀ n i : Nat, i < n → i < L.length →
    Ev (fun k => tourref5_PlaceOf.f k L P i) ((place L P i).f0.f0, (place L P i).f0.f1, (place L P i).f0.f2, (place L P i).f1.f0, (place L P i).f1.f1, (place L P i).f1.f2, (place L P i).f1.f3) := by
  intro n
  induction n with
  | zero => intro i h; omega
  | succ n ih =>
    intro i h1 h2
    have hu := hL i h2
    have hb : rd_T35 L (i : Int) = rdB L i := rfl
    have hq : rd_T37 P (i : Int) = rdQ P i := rfl
    refine Ev.step (fun k => by rw [tourref5_PlaceOf.f, if_pos (by omega), if_pos (by omega), hb, hq]) ?_
    refine Ev.bind (qunit_ev _ _ _ _) ?_
    simp only [if_pos (show ((i : Nat) : Int) < (L.length : Int) by omega)]
    by_cases c : (rdB L i).f0 < 0
    · rw [place_eq hL P i h2, if_pos c]
      simp only [if_pos c]
      exact Ev.now _
    · rw [place_eq hL P i h2, if_neg c]
      obtain ⟨u, hu'⟩ : ∃ u : Nat, (rdB L i).f0 = u := ⟨(rdB L i).f0.toNat, by omega⟩
      simp only [if_neg c]
      rw [hu', Int.toNat_natCast]
      refine Ev.bind (ih u (by omega) (by omega)) (Ev.bind (qturn_ev _ _ _ _ _ _ _) ?_)
      refine Ev.step (fun k => by rw [tourref5_PlaceOf.l0, if_pos (by omega), if_pos rfl, add_eq, Option.bind_some, w1]) ?_
      refine Ev.step (fun k => by rw [tourref5_PlaceOf.l0, if_pos (by omega), if_neg n10, if_pos rfl, add_eq, Option.bind_some, w2]) ?_
      refine Ev.step (fun k => by rw [tourref5_PlaceOf.l0, if_pos (by omega), if_neg n20, if_neg n21, if_pos rfl, add_eq, Option.bind_some, w3]) ?_
      refine Ev.step (fun k => by rw [tourref5_PlaceOf.l0, if_neg (by omega)]) ?_
      refine Ev.bind (qmulV_ev _ _ _ _ _ _ _ _) (Ev.bind (qunit_ev _ _ _ _) ?_)
      rw [addV_comm _ (place L P u).f0.f0, addV_comm _ (place L P u).f0.f1, addV_comm _ (place L P u).f0.f2]
      exact Ev.now _

/-! ### the law -/
theorem law_l1 (A B : List Qt) (t : Int) (n : Nat) (hn : n ≤ 40) (hA : A.length = n) (hB : B.length = n) : ∀ d i : Nat, i + d = n → Ev (fun k => tourlaw5_BonesTell.l1 k A B t (mixes A B t n) n i) true := by
  intro d
  induction d with
  | zero =>
    intro i hi
    exact Ev.step (f := fun _ => some true) (fun k => by rw [tourlaw5_BonesTell.l1, if_neg (by omega)]) (Ev.now _)
  | succ d ih =>
    intro i hi
    have h2 := ih (i + 1) (by omega)
    rw [show (((i + 1 : Nat) : Int)) = (i : Int) + 1 by omega] at h2
    have w : wrap64 ((i : Int) + 1) = i + 1 := wrap_in (by omega) (by omega)
    have hl := mixes_len A B t n
    have hr : rd_T37 (mixes A B t n) (i : Int) = rdQ (mixes A B t n) i := rfl
    refine Ev.step (fun k => by rw [tourlaw5_BonesTell.l1, if_pos (by omega), if_pos (by omega), if_pos (by omega), if_pos (by omega), if_pos (by omega), hr, mixes_rd A B t n i (by omega), w]) ?_
    refine Ev.bind (qblend_ev _ _ _ _ _ _ _ _ _) ?_
    refine Ev.congr (fun k => by rw [if_neg (by simp [mixQ])]) h2
theorem law_j5 (A B : List Qt) (t : Int) (n : Nat) (hn : n ≤ 40) (hA : A.length = n) (hB : B.length = n) : Ev (fun k => tourlaw5_BonesTell.j5 k A B t (mixes A B t n) false) true := by
  refine Ev.step (fun k => by rw [tourlaw5_BonesTell.j5, if_neg (by simp), mixes_len]) ?_
  exact law_l1 A B t n hn hA hB n 0 (by omega)
theorem law_j5_nil (A B : List Qt) (t : Int) : Ev (fun k => tourlaw5_BonesTell.j5 k A B t [] false) true := by
  refine Ev.step (fun k => by rw [tourlaw5_BonesTell.j5, if_neg (by simp)]) ?_
  exact Ev.step (f := fun _ => some true) (fun k => by rw [tourlaw5_BonesTell.l1, if_neg (by simp)]) (Ev.now _)
theorem law_j4 (L : List Bn) (A B : List Qt) (t : Int) (e : Int) (he : e = blendE L A B t) : Ev (fun k => tourlaw5_BonesTell.j4 k L A B t e) true := by
  refine Ev.step (fun k => by rw [tourlaw5_BonesTell.j4]) ?_
  refine Ev.bind (blend_ev L A B t) ?_
  unfold blendV
  by_cases c : blendE L A B t = 0
  · simp only [if_pos c, if_pos (show (0 : Int) = e by omega), if_pos (show e = 0 by omega)]
    unfold blendE at c
    by_cases a : fitV L A = 0
    · rw [if_pos a] at c
      by_cases b : fitV L B = 0
      · simp only [mixes_len, bne_self_eq_false]
        exact law_j5 A B t L.length (fit_len a).2.2 (fit_len a).2.1 (fit_len b).2.1
      · rw [if_neg b] at c; exact absurd c b
    · rw [if_neg a] at c; exact absurd c a
  · simp only [if_neg c, if_pos (show blendE L A B t = e by omega), if_neg (show ¬ e = 0 by omega)]
    simp only [List.length_nil]
    exact law_j5_nil A B t
theorem fault2 (L : List Bn) (A B : List Qt) (t : Int) : blendE L A B t = if faultPV L [A, B] = 0 then (if t < 0 ∨ t > 65536 then 1 else 0) else faultPV L [A, B] := by
  unfold blendE faultPV fitV
  by_cases c : checkV L = 0
  · simp only [if_pos c]
    show _ = if posesV L.length [A, B] = 0 then _ else posesV L.length [A, B]
    unfold posesV posesV posesV
    rw [show (if (A.length : Int) = L.length then (if ∀ q ∈ A, okQt q then (0 : Int) else 1) else 3) = poseV L.length A from rfl, show (if (B.length : Int) = L.length then (if ∀ q ∈ B, okQt q then (0 : Int) else 1) else 3) = poseV L.length B from rfl]
    by_cases a : poseV L.length A = 0
    · simp only [if_pos a]
      by_cases b : poseV L.length B = 0
      · simp only [if_pos b, if_true]
      · simp only [if_neg b]
    · simp only [if_neg a]
  · simp only [if_neg c]

theorem law_tail (L : List Bn) (A B : List Qt) (t : Int) :
    Ev (fun k => (tourref5_BonesFault.f k L [A, B]).bind fun t376 => (if t376 = 0 then (if t < 0 then (tourlaw5_BonesTell.j3 k L A B t t376 true) else (tourlaw5_BonesTell.j3 k L A B t t376 (decide (t > 65536)))) else (tourlaw5_BonesTell.j3 k L A B t t376 false))) true := by
  have h := fault2 L A B t
  have hj : ∀ (e : Int) (z : Bool), (if z = true then 1 else e) = blendE L A B t → Ev (fun k => tourlaw5_BonesTell.j3 k L A B t e z) true := by
    intro e z hz
    cases z
    · exact Ev.step (fun k => by rw [tourlaw5_BonesTell.j3, if_neg (by simp)]) (law_j4 L A B t e (by simpa using hz))
    · exact Ev.step (fun k => by rw [tourlaw5_BonesTell.j3, if_pos rfl]) (law_j4 L A B t 1 (by simpa using hz))
  refine Ev.bind (fault_ev L [A, B] (by simp)) ?_
  by_cases c : faultPV L [A, B] = 0
  · rw [if_pos c] at h
    simp only [if_pos c]
    by_cases d : t < 0
    · simp only [if_pos d]
      exact hj _ _ (by rw [h, if_pos rfl, if_pos (.inl d)])
    · simp only [if_neg d]
      refine hj _ _ ?_
      rw [h]
      by_cases f : t > 65536
      · rw [if_pos (by simpa using f), if_pos (.inr f)]
      · rw [if_neg (by simpa using f), if_neg (by omega), c]
  · rw [if_neg c] at h
    simp only [if_neg c]
    exact hj _ _ (by rw [h]; rfl)

theorem law_l0 {L : List Bn} (hL : up L) (A B : List Qt) (t : Int) (hA : A.length = L.length) (hn : L.length ≤ 40) : ∀ d i : Nat, i + d = L.length → Ev (fun k => tourlaw5_BonesTell.l0 k L A B t (placesTo L A L.length) L.length i) true := by
  intro d
  induction d with
  | zero =>
    intro i hi
    exact Ev.step (fun k => by rw [tourlaw5_BonesTell.l0, if_neg (by omega)]) (law_tail L A B t)
  | succ d ih =>
    intro i hi
    have h2 := ih (i + 1) (by omega)
    rw [show (((i + 1 : Nat) : Int)) = (i : Int) + 1 by omega] at h2
    have w : wrap64 ((i : Int) + 1) = i + 1 := wrap_in (by omega) (by omega)
    have hl := placesTo_len L A L.length
    have hr : rd_T39 (placesTo L A L.length) (i : Int) = place L A i := placesTo_rd L A L.length i (by omega)
    refine Ev.step (fun k => by rw [tourlaw5_BonesTell.l0, if_pos (by omega), if_pos (by omega), if_pos (by omega), hr, w]) ?_
    refine Ev.bind (placeOf_ev hL A hA hn (i + 1) i (by omega) (by omega)) ?_
    exact Ev.congr (fun k => by rw [if_neg (by simp)]) h2
theorem law_j1 (L : List Bn) (A B : List Qt) (t : Int) (h : fitV L A = 0) : Ev (fun k => tourlaw5_BonesTell.j1 k L A B t (placesTo L A L.length) false) true := by
  have f := fit_len h
  refine Ev.step (fun k => by rw [tourlaw5_BonesTell.j1, if_neg (by simp), placesTo_len]) ?_
  exact law_l0 (check_up f.1) A B t f.2.1 f.2.2 L.length 0 (by omega)
theorem law_j1_nil (L : List Bn) (A B : List Qt) (t : Int) : Ev (fun k => tourlaw5_BonesTell.j1 k L A B t [] false) true := by
  refine Ev.step (fun k => by rw [tourlaw5_BonesTell.j1, if_neg (by simp)]) ?_
  exact Ev.step (fun k => by rw [tourlaw5_BonesTell.l0, if_neg (by simp)]) (law_tail L A B t)

theorem law_j0 (L : List Bn) (A B : List Qt) (t : Int) : Ev (fun k => tourlaw5_BonesTell.j0 k L A B t false) true := by
  have hf := fault_ev L [A] (by simp)
  rw [fitV_eq] at hf
  have he := fault_ev L [] (by simp)
  have e0 : faultPV L [] = checkV L := by
    unfold faultPV
    by_cases c : checkV L = 0
    · rw [if_pos c]; exact c.symm
    · rw [if_neg c]
  rw [e0] at he
  refine Ev.step (fun k => by rw [tourlaw5_BonesTell.j0, if_neg (by simp)]) ?_
  refine Ev.bind hf (Ev.bind (places_ev L A) (Ev.bind (check_ev L) (Ev.bind he ?_)))
  simp only [if_true]
  unfold placesV
  by_cases c : fitV L A = 0
  · simp only [if_pos c, if_pos (show (0 : Int) = fitV L A by omega), placesTo_len, bne_self_eq_false]
    exact law_j1 L A B t c
  · simp only [if_neg c, if_true, List.length_nil]
    exact law_j1_nil L A B t

theorem first_ev : Ev (fun k => bones_Places.f k [(⟨(-1), (⟨1, 2, 3⟩ : V3)⟩ : Bn)] [one]) ([(⟨⟨1, 2, 3⟩, one⟩ : Pl)], 0) := Ev.of (fun k => bones_Places.mono _ _ k) (k := 200) (by kernel_rfl)

theorem pure (L : List Bn) (A B : List Qt) (t : Int) : ∃ k, tourlaw5_BonesTell.f k L A B t = some true := by
  refine Ev.rounds ?_
  unfold tourlaw5_BonesTell.f
  simp only [if_pos (show 1 ≤ 8796093022208 by omega)]
  refine Ev.bind (rest_ev (List.replicate 1 z35) (by simp)) ?_
  refine Ev.bind first_ev ?_
  refine Ev.congr (f := fun k => tourlaw5_BonesTell.j0 k L A B t false) (fun k => by dsimp only; rw [if_pos rfl, if_pos (by simp), if_pos (by simp)]; rfl) ?_
  exact law_j0 L A B t

theorem quat_heap : Kd.Heap k37 := Kd.heap_iso _ (Kd.heap_pair (Kd.heap_int .i64) (Kd.heap_pair (Kd.heap_int .i64) (Kd.heap_pair (Kd.heap_int .i64) (Kd.heap_int .i64))))

theorem walk (A0 : Option Addr) (c0 : Nat) (l : List Bn) {W : World} (hr : Kd.C k35 W A0 l.length l) (hc : l.length ≤ c0) {p : Prop} (_ : p) (A1 : Option Addr) (c1 : Nat) (a : List Qt) (hr1 : Kd.C k37 W A1 a.length a) (hc1 : a.length ≤ c1) {q : Prop} (_ : q) (A2 : Option Addr) (c2 : Nat) (b : List Qt) (hr2 : Kd.C k37 W A2 b.length b) (hc2 : b.length ≤ c2) {s : Prop} (_ : s) (t : Int) (_ : (Lit.int .i64 t).wf = true) :
    Calls Try.prog 5 #[.slice A0 l.length c0, .slice A1 a.length c1, .slice A2 b.length c2, .int .i64 t] W fun e w' => e = .returned (.bool true) ∧ Below W.heap.size W w' := by
  obtain ⟨k, hk⟩ := pure l a b t
  exact tourlaw5_BonesTell.calls k _ _ l (fun k => k < W.heap.size) _ _ a (fun k => k < W.heap.size) _ _ b t true W hr hc ⟨A1, c1, rfl, hc1, Kd.C_F quat_heap hr1⟩ ⟨A2, c2, rfl, hc2, Kd.C_F quat_heap hr2⟩ hk
end Go.Proofs.Ytfallkiaojefnaa.PureBonesTell
