/- Blends: a pose blended with itself stands within four units of the pose made unit. Under the conditions that stand at each. -/
import Derived.Test.YtfallkiaojefnaaQPoseBonesBlend
namespace Go.Proofs.Ytfallkiaojefnaa.QBlendBonesBlend
open Go.RowKit Go.Proofs.YtfallkiaojefnaaW.PrintWords Go.Proofs.YtfallkiaojefnaaW.PrintLast Go.Proofs.YtfallkiaojefnaaW.PrintMore Go.Proofs.Ytfallkiaojefnaa.Ext Go.Proofs.Ytfallkiaojefnaa.PBonesBlend Go.Proofs.Ytfallkiaojefnaa.NumBonesBlend Go.Proofs.Ytfallkiaojefnaa.SrcBonesBlend Go.Proofs.Ytfallkiaojefnaa.SkelBonesBlend Go.Proofs.Ytfallkiaojefnaa.QUnitBonesBlend Go.Proofs.Ytfallkiaojefnaa.QExactBonesBlend Go.Proofs.Ytfallkiaojefnaa.QNormBonesBlend Go.Proofs.Ytfallkiaojefnaa.QTrigBonesBlend Go.Proofs.Ytfallkiaojefnaa.QPoseBonesBlend
set_option linter.unusedVariables false
theorem pow_big {m : Int} {s : Nat} (h : 1073741824 ≤ m * 2 ^ s) (hm : m ≤ 131073) : (8192 : Int) ≤ 2 ^ s := by
  have hp : (0 : Int) < 2 ^ s := Int.pow_pos (by omega)
  rcases Int.lt_or_le (2 ^ s : Int) 8192 with c | c
  · have h1 : m * 2 ^ s ≤ 131073 * 2 ^ s := Int.mul_le_mul_of_nonneg_right hm (by omega)
    omega
  · exact c
theorem near4 (p0 p1 p2 p3 e0 e1 e2 e3 a b r r' : Int) (ha : 8192 ≤ a) (hb : 8192 ≤ b) (hr : 1073741824 ≤ r) (hr' : 1073741824 ≤ r')
    (c0 : -1 ≤ e0 ∧ e0 ≤ 1) (c1 : -1 ≤ e1 ∧ e1 ≤ 1) (c2 : -1 ≤ e2 ∧ e2 ≤ 1) (c3 : -1 ≤ e3 ∧ e3 ≤ 1)
    (hg : 3843600000 ≤ p0 * p0 + p1 * p1 + p2 * p2 + p3 * p3)
    (h0 : r * r ≤ (p0 * a) * (p0 * a) + (p1 * a) * (p1 * a) + (p2 * a) * (p2 * a) + (p3 * a) * (p3 * a))
    (h1 : (p0 * a) * (p0 * a) + (p1 * a) * (p1 * a) + (p2 * a) * (p2 * a) + (p3 * a) * (p3 * a) < (r + 1) * (r + 1))
    (h0' : r' * r' ≤ ((p0 + e0) * b) * ((p0 + e0) * b) + ((p1 + e1) * b) * ((p1 + e1) * b) + ((p2 + e2) * b) * ((p2 + e2) * b) + ((p3 + e3) * b) * ((p3 + e3) * b))
    (h1' : ((p0 + e0) * b) * ((p0 + e0) * b) + ((p1 + e1) * b) * ((p1 + e1) * b) + ((p2 + e2) * b) * ((p2 + e2) * b) + ((p3 + e3) * b) * ((p3 + e3) * b) < (r' + 1) * (r' + 1)) :
    (qv (p0 * a) r - qv ((p0 + e0) * b) r' ≤ 4 ∧ -4 ≤ qv (p0 * a) r - qv ((p0 + e0) * b) r') ∧
    (qv (p1 * a) r - qv ((p1 + e1) * b) r' ≤ 4 ∧ -4 ≤ qv (p1 * a) r - qv ((p1 + e1) * b) r') ∧
    (qv (p2 * a) r - qv ((p2 + e2) * b) r' ≤ 4 ∧ -4 ≤ qv (p2 * a) r - qv ((p2 + e2) * b) r') ∧
    (qv (p3 * a) r - qv ((p3 + e3) * b) r' ≤ 4 ∧ -4 ≤ qv (p3 * a) r - qv ((p3 + e3) * b) r') := by
  have hab : 0 ≤ a * b := Int.mul_nonneg (by omega) (by omega)
  have k1 : a * r' ≤ b * (r + 1) + 2 * (a * b) := by
    have hb2 : b * b * ((p0 * a) * (p0 * a) + (p1 * a) * (p1 * a) + (p2 * a) * (p2 * a) + (p3 * a) * (p3 * a)) ≤ b * b * ((r + 1) * (r + 1)) := Int.mul_le_mul_of_nonneg_left (by omega) (sqn b)
    have ht := tri4 (p0 * (a * b)) (p1 * (a * b)) (p2 * (a * b)) (p3 * (a * b)) e0 e1 e2 e3 (a * b) (b * (r + 1)) hab (Int.mul_nonneg (by omega) (by omega)) (by grind) c0 c1 c2 c3
    have ha2 : a * a * (r' * r') ≤ a * a * (((p0 + e0) * b) * ((p0 + e0) * b) + ((p1 + e1) * b) * ((p1 + e1) * b) + ((p2 + e2) * b) * ((p2 + e2) * b) + ((p3 + e3) * b) * ((p3 + e3) * b)) := Int.mul_le_mul_of_nonneg_left h0' (sqn a)
    refine sq_le' ?_ (Int.le_trans (show (a * r') * (a * r') ≤ _ from ?_) ht)
    · have := Int.mul_nonneg (a := b) (b := r + 1) (by omega) (by omega); omega
    · clear ht hb2 h0 h1 h0' h1' hg
      grind
  have k2 : b * r ≤ a * (r' + 1) + 2 * (a * b) := by
    have hb2 : a * a * (((p0 + e0) * b) * ((p0 + e0) * b) + ((p1 + e1) * b) * ((p1 + e1) * b) + ((p2 + e2) * b) * ((p2 + e2) * b) + ((p3 + e3) * b) * ((p3 + e3) * b)) ≤ a * a * ((r' + 1) * (r' + 1)) := Int.mul_le_mul_of_nonneg_left (by omega) (sqn a)
    have ht := tri4 ((p0 + e0) * (a * b)) ((p1 + e1) * (a * b)) ((p2 + e2) * (a * b)) ((p3 + e3) * (a * b)) (-e0) (-e1) (-e2) (-e3) (a * b) (a * (r' + 1)) hab (Int.mul_nonneg (by omega) (by omega)) (by grind) (by omega) (by omega) (by omega) (by omega)
    have ha2 : b * b * (r * r) ≤ b * b * ((p0 * a) * (p0 * a) + (p1 * a) * (p1 * a) + (p2 * a) * (p2 * a) + (p3 * a) * (p3 * a)) := Int.mul_le_mul_of_nonneg_left h0 (sqn b)
    refine sq_le' ?_ (Int.le_trans (show (b * r) * (b * r) ≤ _ from ?_) ht)
    · have := Int.mul_nonneg (a := a) (b := r' + 1) (by omega) (by omega); omega
    · clear ht hb2 h0 h1 h0' h1' hg
      grind
  have k3 : b * 60000 ≤ r' := by
    have hs : 60001 * 60001 < (p0 + e0) * (p0 + e0) + (p1 + e1) * (p1 + e1) + (p2 + e2) * (p2 + e2) + (p3 + e3) * (p3 + e3) := by
      refine Int.lt_of_not_ge fun h => ?_
      have ht := tri4 (p0 + e0) (p1 + e1) (p2 + e2) (p3 + e3) (-e0) (-e1) (-e2) (-e3) 1 60001 (by omega) (by omega) h (by omega) (by omega) (by omega) (by omega)
      rw [show p0 + e0 + 1 * -e0 = p0 from by omega, show p1 + e1 + 1 * -e1 = p1 from by omega, show p2 + e2 + 1 * -e2 = p2 from by omega, show p3 + e3 + 1 * -e3 = p3 from by omega] at ht
      omega
    have hb2 : b * b * (60001 * 60001) ≤ b * b * ((p0 + e0) * (p0 + e0) + (p1 + e1) * (p1 + e1) + (p2 + e2) * (p2 + e2) + (p3 + e3) * (p3 + e3)) := Int.mul_le_mul_of_nonneg_left (by omega) (sqn b)
    have : b * 60001 < r' + 1 := by
      refine sq_lt' (by omega) (Int.lt_of_le_of_lt (show (b * 60001) * (b * 60001) ≤ _ from ?_) h1')
      clear h0 h1 h0' h1' hg hs
      grind
    omega
  have s0 := sqn (p0 * a)
  have s1 := sqn (p1 * a)
  have s2 := sqn (p2 * a)
  have s3 := sqn (p3 * a)
  refine ⟨?_, ?_, ?_, ?_⟩
  · exact near1 p0 e0 a b r r' _ _ rfl rfl ha hb (by omega) (by omega) c0 (sq_bd (by omega) (by omega)) k1 k2 k3
  · exact near1 p1 e1 a b r r' _ _ rfl rfl ha hb (by omega) (by omega) c1 (sq_bd (by omega) (by omega)) k1 k2 k3
  · exact near1 p2 e2 a b r r' _ _ rfl rfl ha hb (by omega) (by omega) c2 (sq_bd (by omega) (by omega)) k1 k2 k3
  · exact near1 p3 e3 a b r r' _ _ rfl rfl ha hb (by omega) (by omega) c3 (sq_bd (by omega) (by omega)) k1 k2 k3
def Near (u u' : Int × Int × Int × Int) : Prop := (u.1 - u'.1 ≤ 4 ∧ -4 ≤ u.1 - u'.1) ∧ (u.2.1 - u'.2.1 ≤ 4 ∧ -4 ≤ u.2.1 - u'.2.1) ∧ (u.2.2.1 - u'.2.2.1 ≤ 4 ∧ -4 ≤ u.2.2.1 - u'.2.2.1) ∧ (u.2.2.2 - u'.2.2.2 ≤ 4 ∧ -4 ≤ u.2.2.2 - u'.2.2.2)
theorem near_unit (q : Qt) (hq : Go.Proofs.Ytfallkiaojefnaa.QPoseBonesBlend.Good q) (e0 e1 e2 e3 : Int) (c0 : -1 ≤ e0 ∧ e0 ≤ 1) (c1 : -1 ≤ e1 ∧ e1 ≤ 1) (c2 : -1 ≤ e2 ∧ e2 ≤ 1) (c3 : -1 ≤ e3 ∧ e3 ≤ 1) :
    Near (qunitV q.f0 q.f1 q.f2 q.f3) (qunitV (q.f0 + e0) (q.f1 + e1) (q.f2 + e2) (q.f3 + e3)) := by
  obtain ⟨p0, p1, p2, p3⟩ := q
  obtain ⟨⟨b0, b1, b2, b3⟩, hg⟩ := hq
  simp only at b0 b1 b2 b3 hg ⊢
  have hu := qunit_of p0 p1 p2 p3
  have hv := qunit_of (p0 + e0) (p1 + e1) (p2 + e2) (p3 + e3)
  unfold UnitOf at hu hv
  rw [clampV_id (a := p0) (by omega) (by omega), clampV_id (a := p1) (by omega) (by omega), clampV_id (a := p2) (by omega) (by omega), clampV_id (a := p3) (by omega) (by omega)] at hu
  rw [clampV_id (a := p0 + e0) (by omega) (by omega), clampV_id (a := p1 + e1) (by omega) (by omega), clampV_id (a := p2 + e2) (by omega) (by omega), clampV_id (a := p3 + e3) (by omega) (by omega)] at hv
  rcases hu with ⟨z0, z1, z2, z3, _⟩ | ⟨s, r, m, hr, h0, h1, hm, hm', eu⟩
  · subst z0 z1 z2 z3; exact absurd hg (by decide)
  rcases hv with ⟨z0, z1, z2, z3, _⟩ | ⟨s', r', m', hr', h0', h1', hn, hn', ev⟩
  · exfalso
    have d0 := mul_bd (a := p0) (b := p0) (A := 1) (B := 1) (by omega) (by omega)
    have d1 := mul_bd (a := p1) (b := p1) (A := 1) (B := 1) (by omega) (by omega)
    have d2 := mul_bd (a := p2) (b := p2) (A := 1) (B := 1) (by omega) (by omega)
    have d3 := mul_bd (a := p3) (b := p3) (A := 1) (B := 1) (by omega) (by omega)
    omega
  rw [eu, ev]
  exact near4 p0 p1 p2 p3 e0 e1 e2 e3 _ _ r r' (pow_big hm (by omega)) (pow_big hn (by omega)) hr hr' c0 c1 c2 c3 hg h0 h1 h0' h1'

/-! ### quat.Blend -/
theorem add_small {a b : Int} (ha : -1000000000 ≤ a ∧ a ≤ 1000000000) (hb : -1000000000 ≤ b ∧ b ≤ 1000000000) : addV a b = a + b := by
  unfold addV
  rw [clampV_id (a := a) (by omega) (by omega), clampV_id (a := b) (by omega) (by omega), clampV_id (by omega) (by omega)]
def mixJ (a b t : Int) : Int := addV (mulV a (wrap64 (65536 - t))) (mulV b t)
theorem blend_j (t a b c d e f g h : Int) : Ev (fun k => quat_Blend.j0 k t a b c d e f g h) (qunitV (mixJ a e t) (mixJ b f t) (mixJ c g t) (mixJ d h t)) := by
  refine Ev.step (fun k => by rw [quat_Blend.j0]) ?_
  refine Ev.bind (mul_ev _ _) (Ev.bind (mul_ev _ _) ?_)
  simp only [add_eq, Option.bind_some]
  refine Ev.bind (mul_ev _ _) (Ev.bind (mul_ev _ _) ?_)
  refine Ev.bind (mul_ev _ _) (Ev.bind (mul_ev _ _) ?_)
  refine Ev.bind (mul_ev _ _) (Ev.bind (mul_ev _ _) ?_)
  exact Ev.bind (qunit_ev _ _ _ _) (Ev.now _)
theorem clamp_t (t : Int) (ht : 0 ≤ t ∧ t ≤ 65536) : mn (mx t 0) 65536 = t := by unfold mn mx; split <;> split <;> omega
/-- Blend is quat.Unit of the mix with b, or with what b turned about is. -/
theorem blend_is (a b : Qt) (t : Int) (ht : 0 ≤ t ∧ t ≤ 65536) (hb : (-131072 ≤ b.f0 ∧ b.f0 ≤ 131072) ∧ (-131072 ≤ b.f1 ∧ b.f1 ≤ 131072) ∧ (-131072 ≤ b.f2 ∧ b.f2 ≤ 131072) ∧ -131072 ≤ b.f3 ∧ b.f3 ≤ 131072) :
    ∃ c : Qt, qblendV a.f0 a.f1 a.f2 a.f3 b.f0 b.f1 b.f2 b.f3 t = qunitV (mixJ a.f0 c.f0 t) (mixJ a.f1 c.f1 t) (mixJ a.f2 c.f2 t) (mixJ a.f3 c.f3 t) ∧
      ((-131072 ≤ c.f0 ∧ c.f0 ≤ 131072) ∧ (-131072 ≤ c.f1 ∧ c.f1 ≤ 131072) ∧ (-131072 ≤ c.f2 ∧ c.f2 ≤ 131072) ∧ -131072 ≤ c.f3 ∧ c.f3 ≤ 131072) ∧
      (0 ≤ addV (addV (addV (addV 0 (mulV a.f0 b.f0)) (mulV a.f1 b.f1)) (mulV a.f2 b.f2)) (mulV a.f3 b.f3) → c = b) := by
  by_cases hs : addV (addV (addV (addV 0 (mulV a.f0 b.f0)) (mulV a.f1 b.f1)) (mulV a.f2 b.f2)) (mulV a.f3 b.f3) < 0
  · refine ⟨⟨-b.f0, -b.f1, -b.f2, -b.f3⟩, ?_, by simp only; omega, fun h => by omega⟩
    refine ev_uniq (qblend_ev _ _ _ _ _ _ _ _ _) ?_
    unfold quat_Blend.f
    refine Ev.bind (mul_ev _ _) (Ev.bind (mul_ev _ _) (Ev.bind (mul_ev _ _) (Ev.bind (mul_ev _ _) (Ev.bind (sum_ev _ _ _ _) ?_))))
    simp only [if_pos hs, clamp_eq, Option.bind_some, clamp_t t ht]
    rw [clampV_id (a := b.f0) (by omega) (by omega), clampV_id (a := b.f1) (by omega) (by omega), clampV_id (a := b.f2) (by omega) (by omega), clampV_id (a := b.f3) (by omega) (by omega),
      wrap_in (x := -b.f0) (by omega) (by omega), wrap_in (x := -b.f1) (by omega) (by omega), wrap_in (x := -b.f2) (by omega) (by omega), wrap_in (x := -b.f3) (by omega) (by omega)]
    exact blend_j _ _ _ _ _ _ _ _ _
  · refine ⟨b, ?_, hb, fun _ => rfl⟩
    refine ev_uniq (qblend_ev _ _ _ _ _ _ _ _ _) ?_
    unfold quat_Blend.f
    refine Ev.bind (mul_ev _ _) (Ev.bind (mul_ev _ _) (Ev.bind (mul_ev _ _) (Ev.bind (mul_ev _ _) (Ev.bind (sum_ev _ _ _ _) ?_))))
    simp only [if_neg hs, clamp_t t ht]
    exact blend_j _ _ _ _ _ _ _ _ _
theorem mix_zero (a c : Int) (ha : -131072 ≤ a ∧ a ≤ 131072) (hc : -131072 ≤ c ∧ c ≤ 131072) : mixJ a c 0 = a := by
  unfold mixJ
  rw [wrap_in (by omega) (by omega)]
  obtain ⟨f, h, h1, h2⟩ := mul_near a (65536 - 0) (by omega) (by omega)
  obtain ⟨g, k, k1, k2⟩ := mul_near c 0 (by omega) (by omega)
  have x : mulV a (65536 - 0) = a := by omega
  have y : mulV c 0 = 0 := by omega
  rw [x, y, add_small (by omega) (by omega)]; omega
theorem mix_same (a t : Int) (ha : -131072 ≤ a ∧ a ≤ 131072) (ht : 0 ≤ t ∧ t ≤ 65536) : ∃ e, mixJ a a t = a + e ∧ -1 ≤ e ∧ e ≤ 1 := by
  unfold mixJ
  rw [wrap_in (by omega) (by omega)]
  obtain ⟨f, h, h1, h2⟩ := mul_near a (65536 - t) (by omega) (by omega)
  obtain ⟨g, k, k1, k2⟩ := mul_near a t (by omega) (by omega)
  have b1 := mul_bd (a := a) (b := 65536 - t) (A := 131072) (B := 65536) ha (by omega)
  have b2 := mul_bd (a := a) (b := t) (A := 131072) (B := 65536) ha (by omega)
  rw [add_small (by omega) (by omega)]
  have e : a * (65536 - t) = a * 65536 - a * t := Int.mul_sub _ _ _
  refine ⟨mulV a (65536 - t) + mulV a t - a, by omega, by omega, by omega⟩
theorem sq_mul (a : Int) (ha : -131072 ≤ a ∧ a ≤ 131072) : 0 ≤ mulV a a ∧ mulV a a ≤ 262145 := by
  obtain ⟨f, h, h1, h2⟩ := mul_near a a (by omega) (by omega)
  have b := mul_bd ha ha
  have := sqn a
  omega
theorem sum4 {a b c d : Int} (ha : 0 ≤ a ∧ a ≤ 262145) (hb : 0 ≤ b ∧ b ≤ 262145) (hc : 0 ≤ c ∧ c ≤ 262145) (hd : 0 ≤ d ∧ d ≤ 262145) : addV (addV (addV (addV 0 a) b) c) d = a + b + c + d := by
  rw [add_small (a := 0) (b := a) (by omega) (by omega), add_small (a := 0 + a) (b := b) (by omega) (by omega), add_small (a := 0 + a + b) (b := c) (by omega) (by omega), add_small (a := 0 + a + b + c) (b := d) (by omega) (by omega)]; omega
theorem blend_zero (a b : Qt) (ha : Go.Proofs.Ytfallkiaojefnaa.QPoseBonesBlend.Good a) (hb : Go.Proofs.Ytfallkiaojefnaa.QPoseBonesBlend.Good b) : qblendV a.f0 a.f1 a.f2 a.f3 b.f0 b.f1 b.f2 b.f3 0 = qunitV a.f0 a.f1 a.f2 a.f3 := by
  obtain ⟨c, h, hc, _⟩ := blend_is a b 0 (by omega) hb.1
  rw [h, mix_zero _ _ ha.1.1 hc.1, mix_zero _ _ ha.1.2.1 hc.2.1, mix_zero _ _ ha.1.2.2.1 hc.2.2.1, mix_zero _ _ ha.1.2.2.2 hc.2.2.2]
theorem blend_same (a : Qt) (t : Int) (ht : 0 ≤ t ∧ t ≤ 65536) (ha : Go.Proofs.Ytfallkiaojefnaa.QPoseBonesBlend.Good a) : Near (qunitV a.f0 a.f1 a.f2 a.f3) (qblendV a.f0 a.f1 a.f2 a.f3 a.f0 a.f1 a.f2 a.f3 t) := by
  obtain ⟨c, h, hc, hk⟩ := blend_is a a t ht ha.1
  have s0 := sq_mul _ ha.1.1
  have s1 := sq_mul _ ha.1.2.1
  have s2 := sq_mul _ ha.1.2.2.1
  have s3 := sq_mul _ ha.1.2.2.2
  obtain rfl := hk (by rw [sum4 s0 s1 s2 s3]; omega)
  obtain ⟨e0, h0, x0⟩ := mix_same _ t ha.1.1 ht
  obtain ⟨e1, h1, x1⟩ := mix_same _ t ha.1.2.1 ht
  obtain ⟨e2, h2, x2⟩ := mix_same _ t ha.1.2.2.1 ht
  obtain ⟨e3, h3, x3⟩ := mix_same _ t ha.1.2.2.2 ht
  rw [h, h0, h1, h2, h3]
  exact near_unit c ha e0 e1 e2 e3 x0 x1 x2 x3
theorem blend_norm (a b : Qt) (t : Int) (ht : 0 ≤ t ∧ t ≤ 65536) (hb : Go.Proofs.Ytfallkiaojefnaa.QPoseBonesBlend.Good b) : ∃ w x y z, UnitOf w x y z (qblendV a.f0 a.f1 a.f2 a.f3 b.f0 b.f1 b.f2 b.f3 t) := by
  obtain ⟨c, h, _, _⟩ := blend_is a b t ht hb.1
  exact ⟨_, _, _, _, h ▸ qunit_of _ _ _ _⟩
end Go.Proofs.Ytfallkiaojefnaa.QBlendBonesBlend
