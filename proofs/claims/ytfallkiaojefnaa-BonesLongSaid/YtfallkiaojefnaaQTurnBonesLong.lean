/- Turns: a vector turned by a quaternion of about length One keeps about its length. Under the conditions that stand at each. -/
import Derived.Test.YtfallkiaojefnaaQPoseBonesLong
namespace Go.Proofs.Ytfallkiaojefnaa.QTurnBonesLong
open Go.RowKit Go.Proofs.YtfallkiaojefnaaW.PrintWords Go.Proofs.YtfallkiaojefnaaW.PrintLast Go.Proofs.YtfallkiaojefnaaW.PrintMore Go.Proofs.Ytfallkiaojefnaa.Ext Go.Proofs.Ytfallkiaojefnaa.PBonesLong Go.Proofs.Ytfallkiaojefnaa.NumBonesLong Go.Proofs.Ytfallkiaojefnaa.SrcBonesLong Go.Proofs.Ytfallkiaojefnaa.SkelBonesLong Go.Proofs.Ytfallkiaojefnaa.QUnitBonesLong Go.Proofs.Ytfallkiaojefnaa.QExactBonesLong Go.Proofs.Ytfallkiaojefnaa.QNormBonesLong Go.Proofs.Ytfallkiaojefnaa.QTrigBonesLong Go.Proofs.Ytfallkiaojefnaa.QPoseBonesLong
set_option linter.unusedVariables false
theorem add_small {a b : Int} (ha : -1000000000 ≤ a ∧ a ≤ 1000000000) (hb : -1000000000 ≤ b ∧ b ≤ 1000000000) : addV a b = a + b := by
  unfold addV
  rw [clampV_id (a := a) (by omega) (by omega), clampV_id (a := b) (by omega) (by omega), clampV_id (by omega) (by omega)]
theorem add4 {a b c d : Int} (ha : -100000000 ≤ a ∧ a ≤ 100000000) (hb : -100000000 ≤ b ∧ b ≤ 100000000) (hc : -100000000 ≤ c ∧ c ≤ 100000000) (hd : -100000000 ≤ d ∧ d ≤ 100000000) : addV (addV (addV (addV 0 a) b) c) d = a + b + c + d := by
  rw [add_small (a := 0) (b := a) (by omega) (by omega), add_small (a := 0 + a) (b := b) (by omega) (by omega), add_small (a := 0 + a + b) (b := c) (by omega) (by omega), add_small (a := 0 + a + b + c) (b := d) (by omega) (by omega)]; omega
/-- One product, its bound, and its turned sign. -/
theorem mul_one' (a n A B : Int) (ha : -A ≤ a ∧ a ≤ A) (hn : -B ≤ n ∧ n ≤ B) (hA : A ≤ 2097152) (hB : B ≤ 2097152) (hA0 : 0 ≤ A) (hB0 : 0 ≤ B) : (∃ f, 65536 * mulV a n = a * n + f ∧ -32768 ≤ f ∧ f ≤ 32768) ∧ (-100000000 ≤ mulV a n ∧ mulV a n ≤ 100000000) ∧ wrap64 (-mulV a n) = -mulV a n := by
  obtain ⟨f, h, h1, h2⟩ := mul_near a n (by omega) (by omega)
  have b := mul_bd (a := a) (b := n) (A := 2097152) (B := 2097152) (by omega) (by omega)
  have c : -100000000 ≤ mulV a n ∧ mulV a n ≤ 100000000 := by omega
  exact ⟨⟨f, h, h1, h2⟩, c, wrap_in (by omega) (by omega)⟩
def lo (f : Int) : Prop := -131072 ≤ f ∧ f ≤ 131072
/-- quat.Mul, with its faults. -/
theorem mul_rel (a b c d e f g h : Int) (ha : -2097152 ≤ a ∧ a ≤ 2097152) (hb : -2097152 ≤ b ∧ b ≤ 2097152) (hc : -2097152 ≤ c ∧ c ≤ 2097152) (hd : -2097152 ≤ d ∧ d ≤ 2097152) (he : -2097152 ≤ e ∧ e ≤ 2097152) (hf : -2097152 ≤ f ∧ f ≤ 2097152) (hg : -2097152 ≤ g ∧ g ≤ 2097152) (hh : -2097152 ≤ h ∧ h ≤ 2097152) :
    ∃ r0 r1 r2 r3 t0 t1 t2 t3, Ev (fun k => quat_Mul.f k a b c d e f g h) (r0, r1, r2, r3) ∧ (lo t0 ∧ lo t1 ∧ lo t2 ∧ lo t3) ∧
      65536 * r0 = a * e - b * f - c * g - d * h + t0 ∧ 65536 * r1 = a * f + b * e + c * h - d * g + t1 ∧ 65536 * r2 = a * g - b * h + c * e + d * f + t2 ∧ 65536 * r3 = a * h + b * g - c * f + d * e + t3 := by
  have M : ∀ x y : Int, (-2097152 ≤ x ∧ x ≤ 2097152) → (-2097152 ≤ y ∧ y ≤ 2097152) → _ := fun x y hx hy => mul_one' x y 2097152 2097152 hx hy (by omega) (by omega) (by omega) (by omega)
  obtain ⟨⟨f1, h1, x1⟩, b1, w1⟩ := M a e ha he
  obtain ⟨⟨f2, h2, x2⟩, b2, w2⟩ := M b f hb hf
  obtain ⟨⟨f3, h3, x3⟩, b3, w3⟩ := M c g hc hg
  obtain ⟨⟨f4, h4, x4⟩, b4, w4⟩ := M d h hd hh
  obtain ⟨⟨f5, h5, x5⟩, b5, w5⟩ := M a f ha hf
  obtain ⟨⟨f6, h6, x6⟩, b6, w6⟩ := M b e hb he
  obtain ⟨⟨f7, h7, x7⟩, b7, w7⟩ := M c h hc hh
  obtain ⟨⟨f8, h8, x8⟩, b8, w8⟩ := M d g hd hg
  obtain ⟨⟨f9, h9, x9⟩, b9, w9⟩ := M a g ha hg
  obtain ⟨⟨f10, h10, x10⟩, b10, w10⟩ := M b h hb hh
  obtain ⟨⟨f11, h11, x11⟩, b11, w11⟩ := M c e hc he
  obtain ⟨⟨f12, h12, x12⟩, b12, w12⟩ := M d f hd hf
  obtain ⟨⟨f13, h13, x13⟩, b13, w13⟩ := M a h ha hh
  obtain ⟨⟨f14, h14, x14⟩, b14, w14⟩ := M b g hb hg
  obtain ⟨⟨f15, h15, x15⟩, b15, w15⟩ := M c f hc hf
  obtain ⟨⟨f16, h16, x16⟩, b16, w16⟩ := M d e hd he
  have hev := qmul_ev a b c d e f g h
  rw [w2, w3, w4, w8, w10, w15] at hev
  rw [add4 b1 (b := -mulV b f) (by omega) (c := -mulV c g) (by omega) (d := -mulV d h) (by omega),
    add4 b5 b6 b7 (d := -mulV d g) (by omega), add4 b9 (b := -mulV b h) (by omega) b11 b12, add4 b13 b14 (c := -mulV c f) (by omega) b16] at hev
  refine ⟨_, _, _, _, f1 - f2 - f3 - f4, f5 + f6 + f7 - f8, f9 - f10 + f11 + f12, f13 + f14 - f15 + f16, hev, ?_, ?_, ?_, ?_, ?_⟩
  · unfold lo; omega
  · omega
  · omega
  · omega
  · omega
/-- A quaternion that quat.Unit gave. -/
def Un (q : Qt) : Prop := 4294836200 ≤ q.f0 * q.f0 + q.f1 * q.f1 + q.f2 * q.f2 + q.f3 * q.f3 ∧ q.f0 * q.f0 + q.f1 * q.f1 + q.f2 * q.f2 + q.f3 * q.f3 ≤ 4295098390
theorem un_bd {q : Qt} (h : Un q) : (-65537 ≤ q.f0 ∧ q.f0 ≤ 65537) ∧ (-65537 ≤ q.f1 ∧ q.f1 ≤ 65537) ∧ (-65537 ≤ q.f2 ∧ q.f2 ≤ 65537) ∧ -65537 ≤ q.f3 ∧ q.f3 ≤ 65537 := by
  obtain ⟨_, h⟩ := h
  have s0 := sqn q.f0
  have s1 := sqn q.f1
  have s2 := sqn q.f2
  have s3 := sqn q.f3
  exact ⟨sq_bd (by omega) (by omega), sq_bd (by omega) (by omega), sq_bd (by omega) (by omega), sq_bd (by omega) (by omega)⟩
theorem un_unit (a b c d : Int) : ∃ q : Qt, Ev (fun k => quat_Unit.f k a b c d) (q.f0, q.f1, q.f2, q.f3) ∧ Un q := by
  obtain ⟨⟨w, x, y, z⟩, hq⟩ : ∃ u, qunitV a b c d = u := ⟨_, rfl⟩
  have h := unit_norm (qunit_of a b c d)
  rw [hq] at h
  exact ⟨⟨w, x, y, z⟩, hq ▸ qunit_ev a b c d, h⟩
theorem tri3 (Z1 Z2 Z3 e1' e2' e3' w z : Int) (hw : 0 ≤ w) (hz : 0 ≤ z) (h : Z1 * Z1 + Z2 * Z2 + Z3 * Z3 ≤ z * z) (b1 : -w ≤ e1' ∧ e1' ≤ w) (b2 : -w ≤ e2' ∧ e2' ≤ w) (b3 : -w ≤ e3' ∧ e3' ≤ w) :
    (Z1 + e1') * (Z1 + e1') + (Z2 + e2') * (Z2 + e2') + (Z3 + e3') * (Z3 + e3') ≤ (z + 2 * w) * (z + 2 * w) := by
  have x1 : Z1 ≤ (Z1.natAbs : Int) ∧ -Z1 ≤ (Z1.natAbs : Int) ∧ (Z1.natAbs : Int) * Z1.natAbs = Z1 * Z1 := ⟨by omega, by omega, Int.natAbs_mul_self' Z1⟩
  have x2 : Z2 ≤ (Z2.natAbs : Int) ∧ -Z2 ≤ (Z2.natAbs : Int) ∧ (Z2.natAbs : Int) * Z2.natAbs = Z2 * Z2 := ⟨by omega, by omega, Int.natAbs_mul_self' Z2⟩
  have x3 : Z3 ≤ (Z3.natAbs : Int) ∧ -Z3 ≤ (Z3.natAbs : Int) ∧ (Z3.natAbs : Int) * Z3.natAbs = Z3 * Z3 := ⟨by omega, by omega, Int.natAbs_mul_self' Z3⟩
  generalize (Z1.natAbs : Int) = n1 at *
  generalize (Z2.natAbs : Int) = n2 at *
  generalize (Z3.natAbs : Int) = n3 at *
  have cs := cs4 n1 n2 n3 0
  rw [x1.2.2, x2.2.2, x3.2.2] at cs
  have hn : n1 + n2 + n3 ≤ 2 * z := sq_le' (by omega) (by grind)
  have part : ∀ Z n e : Int, Z ≤ n → -Z ≤ n → -w ≤ e → e ≤ w → Z * e ≤ w * n ∧ e * e ≤ w * w := by
    intro Z n e h1 h2 h3 h4
    have k1 := Int.mul_nonneg (a := n - Z) (b := w + e) (by omega) (by omega)
    have k2 := Int.mul_nonneg (a := n + Z) (b := w - e) (by omega) (by omega)
    have k3 := Int.mul_nonneg (a := w - e) (b := w + e) (by omega) (by omega)
    constructor <;> grind
  have t1 := part Z1 n1 e1' x1.1 x1.2.1 b1.1 b1.2
  have t2 := part Z2 n2 e2' x2.1 x2.2.1 b2.1 b2.2
  have t3 := part Z3 n3 e3' x3.1 x3.2.1 b3.1 b3.2
  have m1 : w * (n1 + n2 + n3) ≤ w * (2 * z) := Int.mul_le_mul_of_nonneg_left hn hw
  have s := sqn w
  clear part cs hn x1 x2 x3
  grind
/-- The bound of a turn's fault, in parts of 2 ^ 32. -/
def K : Int := 42950590464
/-- quat.Turn: about the length of what it turned. -/
theorem turn_rel (q : Qt) (hq : Un q) (x y z : Int) (hx : -655360 ≤ x ∧ x ≤ 655360) (hy : -655360 ≤ y ∧ y ≤ 655360) (hz : -655360 ≤ z ∧ z ≤ 655360) :
    ∃ d0 d1 d2 E0 E1 E2 e0 e1 e2, Ev (fun k => quat_Turn.f k q.f0 q.f1 q.f2 q.f3 x y z) (d0, d1, d2) ∧ ((-10000000 ≤ d0 ∧ d0 ≤ 10000000) ∧ (-10000000 ≤ d1 ∧ d1 ≤ 10000000) ∧ -10000000 ≤ d2 ∧ d2 ≤ 10000000) ∧
      (4294967296 * d0 = E0 + e0 ∧ 4294967296 * d1 = E1 + e1 ∧ 4294967296 * d2 = E2 + e2) ∧ ((-K ≤ e0 ∧ e0 ≤ K) ∧ (-K ≤ e1 ∧ e1 ≤ K) ∧ -K ≤ e2 ∧ e2 ≤ K) ∧
      E0 * E0 + E1 * E1 + E2 * E2 = ((q.f0 * q.f0 + q.f1 * q.f1 + q.f2 * q.f2 + q.f3 * q.f3) * (q.f0 * q.f0 + q.f1 * q.f1 + q.f2 * q.f2 + q.f3 * q.f3)) * (x * x + y * y + z * z) := by
  obtain ⟨ba, bb, bc, bd⟩ := un_bd hq
  obtain ⟨a, b, c, d⟩ := q
  simp only at *
  obtain ⟨m0, m1, m2, m3, s0, s1, s2, s3, hm, ⟨i0, i1, i2, i3⟩, g0, g1, g2, g3⟩ := mul_rel a b c d 0 x y z (by omega) (by omega) (by omega) (by omega) (by omega) (by omega) (by omega) (by omega)
  unfold lo at i0 i1 i2 i3
  simp only [Int.mul_zero, Int.zero_sub, Int.add_zero] at g0 g1 g2 g3
  have P : ∀ u v : Int, (-65537 ≤ u ∧ u ≤ 65537) → (-655360 ≤ v ∧ v ≤ 655360) → -(65537 * 655360) ≤ u * v ∧ u * v ≤ 65537 * 655360 := fun u v hu hv => mul_bd hu hv
  have a1 := P a x ba hx
  have a2 := P a y ba hy
  have a3 := P a z ba hz
  have b1 := P b x bb hx
  have b2 := P b y bb hy
  have b3 := P b z bb hz
  have c1 := P c x bc hx
  have c2 := P c y bc hy
  have c3 := P c z bc hz
  have d1 := P d x bd hx
  have d2 := P d y bd hy
  have d3 := P d z bd hz
  have k0 : -1966120 ≤ m0 ∧ m0 ≤ 1966120 := by omega
  have k1 : -1966120 ≤ m1 ∧ m1 ≤ 1966120 := by omega
  have k2 : -1966120 ≤ m2 ∧ m2 ≤ 1966120 := by omega
  have k3 : -1966120 ≤ m3 ∧ m3 ≤ 1966120 := by omega
  obtain ⟨r0, r1, r2, r3, t0, t1, t2, t3, hr, ⟨_, j1, j2, j3⟩, _, l1, l2, l3⟩ := mul_rel m0 m1 m2 m3 a (-b) (-c) (-d) (by omega) (by omega) (by omega) (by omega) (by omega) (by omega) (by omega) (by omega)
  unfold lo at j1 j2 j3
  have hback : quat_Back.f a b c d = some (a, -b, -c, -d) := by
    unfold quat_Back.f
    simp only [clamp_eq, Option.bind_some]
    rw [clampV_id (a := a) (by omega) (by omega), clampV_id (a := b) (by omega) (by omega), clampV_id (a := c) (by omega) (by omega), clampV_id (a := d) (by omega) (by omega), wrap_in (x := -b) (by omega) (by omega), wrap_in (x := -c) (by omega) (by omega), wrap_in (x := -d) (by omega) (by omega)]
  have R : ∀ u v : Int, (-1966120 ≤ u ∧ u ≤ 1966120) → (-65537 ≤ v ∧ v ≤ 65537) → -(1966120 * 65537) ≤ u * v ∧ u * v ≤ 1966120 * 65537 := fun u v hu hv => mul_bd hu hv
  have D : ∀ u v : Int, (-131072 ≤ u ∧ u ≤ 131072) → (-65537 ≤ v ∧ v ≤ 65537) → -(131072 * 65537) ≤ u * v ∧ u * v ≤ 131072 * 65537 := fun u v hu hv => mul_bd hu hv
  simp only [Int.mul_neg, Int.sub_neg] at l1 l2 l3
  refine ⟨r1, r2, r3, 65536 * (-(m0 * b) + m1 * a + -(m2 * d) + m3 * c) * 1 - (s0 * (-b) + s1 * a - s2 * d + s3 * c), 65536 * (-(m0 * c) + m1 * d + m2 * a + -(m3 * b)) - (s0 * (-c) + s1 * d + s2 * a - s3 * b), 65536 * (-(m0 * d) + -(m1 * c) + m2 * b + m3 * a) - (s0 * (-d) - s1 * c + s2 * b + s3 * a),
    s0 * (-b) + s1 * a - s2 * d + s3 * c + 65536 * t1, s0 * (-c) + s1 * d + s2 * a - s3 * b + 65536 * t2, s0 * (-d) - s1 * c + s2 * b + s3 * a + 65536 * t3, ?_, ?_, ?_, ?_, ?_⟩
  · unfold quat_Turn.f
    refine Ev.bind hm ?_
    simp only [hback, Option.bind_some]
    exact Ev.bind hr (Ev.now _)
  · have q1 := R m0 b k0 bb
    have q2 := R m1 a k1 ba
    have q3 := R m2 d k2 bd
    have q4 := R m3 c k3 bc
    have q5 := R m0 c k0 bc
    have q6 := R m1 d k1 bd
    have q7 := R m2 a k2 ba
    have q8 := R m3 b k3 bb
    have q9 := R m0 d k0 bd
    have q10 := R m1 c k1 bc
    have q11 := R m2 b k2 bb
    have q12 := R m3 a k3 ba
    omega
  · refine ⟨?_, ?_, ?_⟩
    · have : 4294967296 * r1 = 65536 * (65536 * r1) := by omega
      rw [this, l1]; grind
    · have : 4294967296 * r2 = 65536 * (65536 * r2) := by omega
      rw [this, l2]; grind
    · have : 4294967296 * r3 = 65536 * (65536 * r3) := by omega
      rw [this, l3]; grind
  · have q1 := D s0 b i0 bb
    have q2 := D s1 a i1 ba
    have q3 := D s2 d i2 bd
    have q4 := D s3 c i3 bc
    have q5 := D s0 c i0 bc
    have q6 := D s1 d i1 bd
    have q7 := D s2 a i2 ba
    have q8 := D s3 b i3 bb
    have q9 := D s0 d i0 bd
    have q10 := D s1 c i1 bc
    have q11 := D s2 b i2 bb
    have q12 := D s3 a i3 ba
    unfold K
    simp only [Int.mul_neg]
    omega
  · have e0 : 65536 * m0 - s0 = -(b * x) - c * y - d * z := by omega
    have e1 : 65536 * m1 - s1 = a * x + c * z - d * y := by omega
    have e2 : 65536 * m2 - s2 = a * y - b * z + d * x := by omega
    have e3 : 65536 * m3 - s3 = a * z + b * y - c * x := by omega
    have f1 : 65536 * (-(m0 * b) + m1 * a + -(m2 * d) + m3 * c) * 1 - (s0 * (-b) + s1 * a - s2 * d + s3 * c) = (65536 * m0 - s0) * (-b) + (65536 * m1 - s1) * a - (65536 * m2 - s2) * d + (65536 * m3 - s3) * c := by clear g0 g1 g2 g3 l1 l2 l3 e0 e1 e2 e3; grind
    have f2 : 65536 * (-(m0 * c) + m1 * d + m2 * a + -(m3 * b)) - (s0 * (-c) + s1 * d + s2 * a - s3 * b) = (65536 * m0 - s0) * (-c) + (65536 * m1 - s1) * d + (65536 * m2 - s2) * a - (65536 * m3 - s3) * b := by clear g0 g1 g2 g3 l1 l2 l3 e0 e1 e2 e3; grind
    have f3 : 65536 * (-(m0 * d) + -(m1 * c) + m2 * b + m3 * a) - (s0 * (-d) - s1 * c + s2 * b + s3 * a) = (65536 * m0 - s0) * (-d) - (65536 * m1 - s1) * c + (65536 * m2 - s2) * b + (65536 * m3 - s3) * a := by clear g0 g1 g2 g3 l1 l2 l3 e0 e1 e2 e3; grind
    rw [f1, f2, f3, e0, e1, e2, e3]
    clear g0 g1 g2 g3 l1 l2 l3 e0 e1 e2 e3 f1 f2 f3 P R D hq a1 a2 a3 b1 b2 b3 c1 c2 c3 d1 d2 d3 k0 k1 k2 k3
    grind

/-! ### far -/
theorem far_ev (x y z : Int) (hx : -10000000 ≤ x ∧ x ≤ 10000000) (hy : -10000000 ≤ y ∧ y ≤ 10000000) (hz : -10000000 ≤ z ∧ z ≤ 10000000) : ∃ r, Ev (fun k => tourkeep5_far.f k x y z) r ∧ 0 ≤ r ∧ r ≤ 100000000 ∧ r * r ≤ x * x + y * y + z * z ∧ x * x + y * y + z * z ≤ (r + 2) * (r + 2) := by
  have bx := mul_bd hx hx
  have bY := mul_bd hy hy
  have bz := mul_bd hz hz
  obtain ⟨w, ⟨w0, w1, w2⟩, hw⟩ := vlen_ev x y
  rw [clampV_id (a := x) (by omega) (by omega), clampV_id (a := y) (by omega) (by omega)] at w1 w2
  have wb : w ≤ 100000000 := sq_le' (by omega) (by omega)
  rw [clampV_id (a := w) (by omega) (by omega)] at hw
  obtain ⟨r, ⟨r0, r1, r2⟩, hr⟩ := vlen_ev w z
  rw [clampV_id (a := w) (by omega) (by omega), clampV_id (a := z) (by omega) (by omega)] at r1 r2
  have rb : r ≤ 100000000 := sq_le' (by omega) (by omega)
  rw [clampV_id (a := r) (by omega) (by omega)] at hr
  refine ⟨r, ?_, r0, rb, by omega, ?_⟩
  · unfold tourkeep5_far.f
    exact Ev.bind hw (Ev.bind hr (Ev.now _))
  · have sz := sqn z
    have hwr : w < r + 1 := sq_lt' (by omega) (by omega)
    have g1 : (w + 1) * (w + 1) = w * w + 2 * w + 1 := by grind
    have g2 : (r + 2) * (r + 2) = (r + 1) * (r + 1) + 2 * r + 3 := by grind
    omega
/-- Of two vectors, of which one is the other turned, the lengths differ by less than sixty-odd. -/
theorem far_near (N x y z d0 d1 d2 E0 E1 E2 e0 e1 e2 a F : Int) (hN : 4294836200 ≤ N ∧ N ≤ 4295098390) (ha : 0 ≤ a ∧ a ≤ 1300000) (hF : 0 ≤ F)
    (a1 : a * a ≤ x * x + y * y + z * z) (a2 : x * x + y * y + z * z ≤ (a + 2) * (a + 2)) (F1 : F * F ≤ d0 * d0 + d1 * d1 + d2 * d2) (F2 : d0 * d0 + d1 * d1 + d2 * d2 ≤ (F + 2) * (F + 2))
    (g0 : 4294967296 * d0 = E0 + e0) (g1 : 4294967296 * d1 = E1 + e1) (g2 : 4294967296 * d2 = E2 + e2) (b0 : -K ≤ e0 ∧ e0 ≤ K) (b1 : -K ≤ e1 ∧ e1 ≤ K) (b2 : -K ≤ e2 ∧ e2 ≤ K)
    (hE : E0 * E0 + E1 * E1 + E2 * E2 = (N * N) * (x * x + y * y + z * z)) : F - a ≤ 400 ∧ a - F ≤ 400 := by
  have hK : K = 42950590464 := rfl
  have nn := sqn N
  constructor
  · have h1 : (N * N) * (x * x + y * y + z * z) ≤ (N * N) * ((a + 2) * (a + 2)) := Int.mul_le_mul_of_nonneg_left a2 nn
    have h2 := tri3 E0 E1 E2 e0 e1 e2 K (N * (a + 2)) (by omega) (Int.mul_nonneg (by omega) (by omega)) (by rw [hE]; grind) b0 b1 b2
    rw [← g0, ← g1, ← g2] at h2
    have h3 : 4294967296 * F ≤ N * (a + 2) + 2 * K := by
      refine sq_le' (by have := Int.mul_nonneg (a := N) (b := a + 2) (by omega) (by omega); omega) (Int.le_trans ?_ h2)
      have : (4294967296 * F) * (4294967296 * F) = 18446744073709551616 * (F * F) := by grind
      have : 4294967296 * d0 * (4294967296 * d0) + 4294967296 * d1 * (4294967296 * d1) + 4294967296 * d2 * (4294967296 * d2) = 18446744073709551616 * (d0 * d0 + d1 * d1 + d2 * d2) := by grind
      omega
    have h4 : N * (a + 2) ≤ 4295098390 * (a + 2) := Int.mul_le_mul_of_nonneg_right hN.2 (by omega)
    omega
  · have h2 := tri3 (4294967296 * d0) (4294967296 * d1) (4294967296 * d2) (-e0) (-e1) (-e2) K (4294967296 * (F + 2)) (by omega) (by omega) (by
      have : 4294967296 * d0 * (4294967296 * d0) + 4294967296 * d1 * (4294967296 * d1) + 4294967296 * d2 * (4294967296 * d2) = 18446744073709551616 * (d0 * d0 + d1 * d1 + d2 * d2) := by grind
      have : 4294967296 * (F + 2) * (4294967296 * (F + 2)) = 18446744073709551616 * ((F + 2) * (F + 2)) := by grind
      omega) (by omega) (by omega) (by omega)
    rw [show 4294967296 * d0 + -e0 = E0 from by omega, show 4294967296 * d1 + -e1 = E1 from by omega, show 4294967296 * d2 + -e2 = E2 from by omega, hE] at h2
    have h1 : (N * N) * (a * a) ≤ (N * N) * (x * x + y * y + z * z) := Int.mul_le_mul_of_nonneg_left a1 nn
    have h3 : N * a ≤ 4294967296 * (F + 2) + 2 * K := by
      refine sq_le' (by omega) (Int.le_trans ?_ h2)
      have : (N * a) * (N * a) = (N * N) * (a * a) := by grind
      omega
    have h4 : 4294836200 * a ≤ N * a := Int.mul_le_mul_of_nonneg_right hN.1 (by omega)
    omega
end Go.Proofs.Ytfallkiaojefnaa.QTurnBonesLong
