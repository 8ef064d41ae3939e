/- What the law BonesBlend computes is true, whatever the numbers. Under no condition. -/
import Derived.Test.YtfallkiaojefnaaQBlendBonesBlend
namespace Go.Proofs.Ytfallkiaojefnaa.Pure
open Go.RowKit Go.Proofs.YtfallkiaojefnaaW.PrintWords Go.Proofs.YtfallkiaojefnaaW.PrintLast Go.Proofs.YtfallkiaojefnaaW.PrintMore Go.Proofs.Ytfallkiaojefnaa.Ext Go.Proofs.Ytfallkiaojefnaa.PBonesBlend Go.Proofs.Ytfallkiaojefnaa.NumBonesBlend Go.Proofs.Ytfallkiaojefnaa.SrcBonesBlend Go.Proofs.Ytfallkiaojefnaa.SkelBonesBlend Go.Proofs.Ytfallkiaojefnaa.QUnitBonesBlend Go.Proofs.Ytfallkiaojefnaa.QExactBonesBlend Go.Proofs.Ytfallkiaojefnaa.QNormBonesBlend Go.Proofs.Ytfallkiaojefnaa.QTrigBonesBlend Go.Proofs.Ytfallkiaojefnaa.QPoseBonesBlend Go.Proofs.Ytfallkiaojefnaa.QBlendBonesBlend
set_option linter.unusedVariables false
abbrev GoodQ := Go.Proofs.Ytfallkiaojefnaa.QPoseBonesBlend.Good

/-! ### bones.Blend -/
noncomputable def mixQ (a b : Qt) (t : Int) : Int × Int × Int × Int := qblendV a.f0 a.f1 a.f2 a.f3 b.f0 b.f1 b.f2 b.f3 t
noncomputable def mixes (A B : List Qt) (t : Int) (n : Nat) : List Qt := (List.range n).map fun (i : Nat) => ⟨(mixQ (rdQ A i) (rdQ B i) t).1, (mixQ (rdQ A i) (rdQ B i) t).2.1, (mixQ (rdQ A i) (rdQ B i) t).2.2.1, (mixQ (rdQ A i) (rdQ B i) t).2.2.2⟩
theorem mixes_len (A B : List Qt) (t : Int) (n : Nat) : (mixes A B t n).length = n := by simp [mixes]
theorem mixes_succ (A B : List Qt) (t : Int) (n : Nat) : mixes A B t (n + 1) = mixes A B t n ++ [⟨(mixQ (rdQ A n) (rdQ B n) t).1, (mixQ (rdQ A n) (rdQ B n) t).2.1, (mixQ (rdQ A n) (rdQ B n) t).2.2.1, (mixQ (rdQ A n) (rdQ B n) t).2.2.2⟩] := by simp [mixes, List.range_succ]
theorem mixes_rd (A B : List Qt) (t : Int) (n i : Nat) (h : i < n) : rdQ (mixes A B t n) i = ⟨(mixQ (rdQ A i) (rdQ B i) t).1, (mixQ (rdQ A i) (rdQ B i) t).2.1, (mixQ (rdQ A i) (rdQ B i) t).2.2.1, (mixQ (rdQ A i) (rdQ B i) t).2.2.2⟩ := by
  rw [rdQ_get _ _ (by rw [mixes_len]; exact h)]
  simp [mixes]

theorem blend_l0 (A B : List Qt) (t : Int) (n : Nat) (hn : n ≤ 40) (hA : A.length = n) (hB : B.length = n) : ∀ d i : Nat, i + d = n → Ev (fun k => bones_Blend.l0 k A B t (mixes A B t i) n i) (mixes A B t n, 0) := by
  intro d
  induction d with
  | zero =>
    intro i hi
    obtain rfl : i = n := by omega
    exact Ev.step (f := fun _ => some (mixes A B t i, 0)) (fun k => by rw [bones_Blend.l0, if_neg (by omega)]) (Ev.now _)
  | succ d ih =>
    intro i hi
    have h2 := ih (i + 1) (by omega)
    rw [show (((i + 1 : Nat) : Int)) = (i : Int) + 1 by omega, mixes_succ] at h2
    have w : wrap64 ((i : Int) + 1) = i + 1 := wrap_in (by omega) (by omega)
    have hl := mixes_len A B t i
    refine Ev.step (fun k => by rw [bones_Blend.l0, if_pos (by omega), if_pos (by omega), if_pos (by omega), if_pos (by omega)]) ?_
    refine Ev.bind (qblend_ev _ _ _ _ _ _ _ _ _) ?_
    simp only [if_pos (show (mixes A B t i).length < 4398046511104 by omega), w]
    exact h2
theorem fit_len {L : List Bn} {P : List Qt} (h : fitV L P = 0) : P.length = L.length ∧ L.length ≤ 40 := by
  unfold fitV at h
  by_cases c : checkV L = 0
  · rw [if_pos c] at h
    by_cases d : (P.length : Int) = L.length
    · refine ⟨by omega, ?_⟩
      unfold checkV at c
      by_cases e : (L.length : Int) > 40
      · rw [if_pos e] at c; omega
      · omega
    · rw [if_neg d] at h; omega
  · rw [if_neg c] at h; exact absurd h c
theorem blend_ev (L : List Bn) (A B : List Qt) (t : Int) (hA : fitV L A = 0) (hB : fitV L B = 0) (ht : 0 ≤ t ∧ t ≤ 65536) : Ev (fun k => bones_Blend.f k L A B t) (mixes A B t L.length, 0) := by
  unfold bones_Blend.f
  have fa := fitting_ev L A
  have fb := fitting_ev L B
  rw [hA] at fa
  rw [hB] at fb
  refine Ev.bind fa ?_
  simp only [if_true]
  refine Ev.bind fb ?_
  simp only [if_true, if_neg (show ¬ t < 0 by omega)]
  refine Ev.step (fun k => by rw [bones_Blend.j0, if_neg (by simp; omega)]) ?_
  exact blend_l0 A B t L.length (fit_len hA).2 (fit_len hA).1 (fit_len hB).1 L.length 0 (by omega)
theorem good_ok {q : Qt} (h : GoodQ q) : okQt q := by
  obtain ⟨⟨h0, h1, h2, h3⟩, _⟩ := h
  intro x hx
  unfold wide
  unfold parts at hx
  simp only [List.mem_cons, List.not_mem_nil, or_false] at hx
  rcases hx with rfl | rfl | rfl | rfl <;> omega
theorem good_fit {L : List Bn} {P : List Qt} (hS : okS L) (hL : L.length ≤ 5) (hP : P.length = L.length) (hg : ∀ q ∈ P, GoodQ q) : fitV L P = 0 := by
  unfold fitV
  rw [if_pos (okS_check hS hL), if_pos (by omega), if_pos fun q hq => good_ok (hg q hq)]

/-! ### The law -/
theorem stands_ev : Ev (fun k => tourkeep5_stands.f k) true := Ev.of (fun k => tourkeep5_stands.mono k) (k := 200) (by decide +kernel)

theorem l2_step (P X Y Z : List Qt) (m : Int) (i : Nat) (l : List Int) (j : Nat) (hj : j < l.length) (h3 : j ≤ 3) (hb : rd l j ≤ 4 ∧ -4 ≤ rd l j) (h : Ev (fun k => tourkeep5_BonesBlend.l2 k P X Y Z m i l l.length ((j + 1 : Nat) : Int)) true) :
    Ev (fun k => tourkeep5_BonesBlend.l2 k P X Y Z m i l l.length (j : Int)) true := by
  refine Ev.step (fun k => ?_) h
  rw [tourkeep5_BonesBlend.l2, if_pos (by omega), if_pos (by omega), if_pos (by omega), if_neg (by omega), if_neg (by omega), if_neg (by omega), wrap_in (x := (j : Int) + 1) (by omega) (by omega)]
  rfl
theorem l1_step (P X Y Z : List Qt) (i m s : Int) (l : List Int) (hl : l.length ≤ 100) (j : Nat) (hj : j < l.length) (h : Ev (fun k => tourkeep5_BonesBlend.l1 k P X Y Z i (addV s (mulV (rd l j) (rd l j))) m i l l.length ((j + 1 : Nat) : Int)) true) :
    Ev (fun k => tourkeep5_BonesBlend.l1 k P X Y Z i s m i l l.length (j : Int)) true := by
  refine Ev.step (fun k => by rw [tourkeep5_BonesBlend.l1, if_pos (by omega), if_pos (by omega), if_pos (by omega)]) ?_
  refine Ev.bind (mul_ev _ _) ?_
  simp only [add_eq, Option.bind_some, wrap_in (x := (j : Int) + 1) (by omega) (by omega)]
  exact h
/-- The squares of what is about unit, summed up in fixed point. -/
theorem norm_sum (a b c d : Int) (h0 : 4294836200 ≤ a * a + b * b + c * c + d * d) (h1 : a * a + b * b + c * c + d * d ≤ 4295098390) :
    65520 ≤ addV (addV (addV (addV 0 (mulV a a)) (mulV b b)) (mulV c c)) (mulV d d) ∧ addV (addV (addV (addV 0 (mulV a a)) (mulV b b)) (mulV c c)) (mulV d d) ≤ 65552 := by
  have qa := sqn a
  have qb := sqn b
  have qc := sqn c
  have qd := sqn d
  have ba := sq_bd (a := a) (m := 65537) (by omega) (by omega)
  have bb := sq_bd (a := b) (m := 65537) (by omega) (by omega)
  have bc := sq_bd (a := c) (m := 65537) (by omega) (by omega)
  have bd := sq_bd (a := d) (m := 65537) (by omega) (by omega)
  rw [sum4 (sq_mul a (by omega)) (sq_mul b (by omega)) (sq_mul c (by omega)) (sq_mul d (by omega))]
  obtain ⟨fa, ha, xa⟩ := mul_near a a (by omega) (by omega)
  obtain ⟨fb, hb, xb⟩ := mul_near b b (by omega) (by omega)
  obtain ⟨fc, hc, xc⟩ := mul_near c c (by omega) (by omega)
  obtain ⟨fd, hd, xd⟩ := mul_near d d (by omega) (by omega)
  omega
theorem eq_self4 (a b c d : Int) : (!(a == a) || (!(b == b) || (!(c == c) || !(d == d)))) = false := by simp
theorem law_l0 (P Q : List Qt) (t : Int) (ht : 0 ≤ t ∧ t ≤ 65536) (n : Nat) (hn : n ≤ 5) (hP : P.length = n) (hQ : Q.length = n) (gP : ∀ q ∈ P, GoodQ q) (gQ : ∀ q ∈ Q, GoodQ q) : ∀ d i : Nat, i + d = n →
    Ev (fun k => tourkeep5_BonesBlend.l0 k P (mixes P Q 0 n) (mixes P P t n) (mixes P Q t n) n i) true := by
  intro d
  induction d with
  | zero => intro i hi; exact Ev.step (f := fun _ => some true) (fun k => by rw [tourkeep5_BonesBlend.l0, if_neg (by omega)]) (Ev.now _)
  | succ d ih =>
    intro i hi
    have h2 := ih (i + 1) (by omega)
    have w : wrap64 ((i : Int) + 1) = ((i + 1 : Nat) : Int) := by rw [wrap_in (by omega) (by omega)]; omega
    have gp : GoodQ (rdQ P i) := by rw [rdQ_get P i (by omega)]; exact gP _ (List.getElem_mem _)
    have gq : GoodQ (rdQ Q i) := by rw [rdQ_get Q i (by omega)]; exact gQ _ (List.getElem_mem _)
    have lx := mixes_len P Q 0 n
    have ly := mixes_len P P t n
    have lz := mixes_len P Q t n
    have rx : rd_T37 (mixes P Q 0 n) (i : Int) = _ := mixes_rd P Q 0 n i (by omega)
    have ry : rd_T37 (mixes P P t n) (i : Int) = _ := mixes_rd P P t n i (by omega)
    have rz : rd_T37 (mixes P Q t n) (i : Int) = _ := mixes_rd P Q t n i (by omega)
    have hx : mixQ (rdQ P i) (rdQ Q i) 0 = qunitV (rdQ P i).f0 (rdQ P i).f1 (rdQ P i).f2 (rdQ P i).f3 := blend_zero _ _ gp gq
    have hy : Near (qunitV (rdQ P i).f0 (rdQ P i).f1 (rdQ P i).f2 (rdQ P i).f3) (mixQ (rdQ P i) (rdQ P i) t) := blend_same _ t ht gp
    obtain ⟨a, b, c, e, hu⟩ := blend_norm (rdQ P i) (rdQ Q i) t ht gq
    have hz := unit_norm hu
    rw [show qblendV (rdQ P i).f0 (rdQ P i).f1 (rdQ P i).f2 (rdQ P i).f3 (rdQ Q i).f0 (rdQ Q i).f1 (rdQ Q i).f2 (rdQ Q i).f3 t = mixQ (rdQ P i) (rdQ Q i) t from rfl] at hz
    clear hu
    rw [hx] at rx
    generalize mixes P Q 0 n = X at *
    generalize mixes P P t n = Y at *
    generalize mixes P Q t n = Z at *
    generalize mixQ (rdQ P i) (rdQ Q i) t = z at *
    generalize mixQ (rdQ P i) (rdQ P i) t = y at *
    have rp : rd_T37 P (i : Int) = rdQ P i := rfl
    refine Ev.step (fun k => by rw [tourkeep5_BonesBlend.l0, if_pos (by omega), if_pos (by omega), if_pos (by omega), if_pos (by omega), rx, rp, rz, if_pos (show (i : Int) < (Z.length : Int) by omega)]) ?_
    refine Ev.bind (qunit_ev _ _ _ _) ?_
    have q0 := qunit_of (rdQ P i).f0 (rdQ P i).f1 (rdQ P i).f2 (rdQ P i).f3
    have ux := unit_norm q0
    clear q0
    generalize qunitV (rdQ P i).f0 (rdQ P i).f1 (rdQ P i).f2 (rdQ P i).f3 = x at *
    obtain ⟨x0, x1, x2, x3⟩ := x
    obtain ⟨y0, y1, y2, y3⟩ := y
    obtain ⟨z0, z1, z2, z3⟩ := z
    unfold Near at hy
    simp only at hy hz rx ry rz ux ⊢
    simp only [eq_self4, Bool.false_eq_true, if_false, Option.bind_some]
    have n4 := norm_sum z0 z1 z2 z3 hz.1 hz.2
    refine l1_step P X Y Z i n 0 [z0, z1, z2, z3] (by simp) 0 (by simp) ?_
    refine l1_step P X Y Z i n _ [z0, z1, z2, z3] (by simp) 1 (by simp) ?_
    refine l1_step P X Y Z i n _ [z0, z1, z2, z3] (by simp) 2 (by simp) ?_
    refine l1_step P X Y Z i n _ [z0, z1, z2, z3] (by simp) 3 (by simp) ?_
    rw [show rd [z0, z1, z2, z3] ((0 : Nat) : Int) = z0 from rfl, show rd [z0, z1, z2, z3] ((1 : Nat) : Int) = z1 from rfl, show rd [z0, z1, z2, z3] ((2 : Nat) : Int) = z2 from rfl, show rd [z0, z1, z2, z3] ((3 : Nat) : Int) = z3 from rfl]
    generalize addV (addV (addV (addV 0 (mulV z0 z0)) (mulV z1 z1)) (mulV z2 z2)) (mulV z3 z3) = N at *
    refine Ev.step (fun k => by rw [tourkeep5_BonesBlend.l1, if_neg (by simp), if_neg (by omega)]) ?_
    refine Ev.step (fun k => by rw [tourkeep5_BonesBlend.j3, if_neg (by simp; omega), if_pos (by omega), if_pos (by omega), if_pos (by omega), rx, ry]) ?_
    simp only [Option.bind_some]
    have bx0 := sq_bd (a := x0) (m := 65537) (by omega) (by have := sqn x1; have := sqn x2; have := sqn x3; omega)
    have bx1 := sq_bd (a := x1) (m := 65537) (by omega) (by have := sqn x0; have := sqn x2; have := sqn x3; omega)
    have bx2 := sq_bd (a := x2) (m := 65537) (by omega) (by have := sqn x0; have := sqn x1; have := sqn x3; omega)
    have bx3 := sq_bd (a := x3) (m := 65537) (by omega) (by have := sqn x0; have := sqn x1; have := sqn x2; omega)
    rw [wrap_in (x := y0 - x0) (by omega) (by omega), wrap_in (x := y1 - x1) (by omega) (by omega), wrap_in (x := y2 - x2) (by omega) (by omega), wrap_in (x := y3 - x3) (by omega) (by omega)]
    refine l2_step P X Y Z n i [y0 - x0, y1 - x1, y2 - x2, y3 - x3] 0 (by simp) (by omega) (show y0 - x0 ≤ 4 ∧ -4 ≤ y0 - x0 by omega) ?_
    refine l2_step P X Y Z n i [y0 - x0, y1 - x1, y2 - x2, y3 - x3] 1 (by simp) (by omega) (show y1 - x1 ≤ 4 ∧ -4 ≤ y1 - x1 by omega) ?_
    refine l2_step P X Y Z n i [y0 - x0, y1 - x1, y2 - x2, y3 - x3] 2 (by simp) (by omega) (show y2 - x2 ≤ 4 ∧ -4 ≤ y2 - x2 by omega) ?_
    refine l2_step P X Y Z n i [y0 - x0, y1 - x1, y2 - x2, y3 - x3] 3 (by simp) (by omega) (show y3 - x3 ≤ 4 ∧ -4 ≤ y3 - x3 by omega) ?_
    exact Ev.step (fun k => by rw [tourkeep5_BonesBlend.l2, if_neg (by simp), w]) h2

theorem BonesBlend : tourkeep5_BonesBlend.Pure := by
  intro l0 l1 l2 a3 h0 _ _ h1 _ _ h2 _ _ _
  refine Ev.rounds ?_
  obtain ⟨L, hev, hS, hL⟩ := skel_ev l0 (by omega)
  obtain ⟨P, pev, gP, lP⟩ := pose_ev l1 (by omega) L.length (by omega)
  obtain ⟨Q, qev, gQ, lQ⟩ := pose_ev l2 (by omega) L.length (by omega)
  obtain ⟨t, et, t0, t1⟩ := below_ok a3 65537 (by omega)
  have fP := good_fit hS hL lP gP
  have fQ := good_fit hS hL lQ gQ
  unfold tourkeep5_BonesBlend.f
  refine Ev.bind stands_ev ?_
  simp only [if_true]
  refine Ev.bind hev (Ev.bind pev (Ev.bind qev (Ev.bind (blend_ev L P Q 0 fP fQ (by omega)) ?_)))
  simp only [et, Option.bind_some]
  refine Ev.bind (blend_ev L P P t fP fP (by omega)) (Ev.bind (blend_ev L P Q t fP fQ (by omega)) ?_)
  simp only [if_true, mixes_len]
  refine Ev.step (fun k => by rw [tourkeep5_BonesBlend.j0, if_neg (by simp)]) ?_
  exact law_l0 P Q t (by omega) L.length hL lP lQ gP gQ L.length 0 (by omega)
end Go.Proofs.Ytfallkiaojefnaa.Pure
