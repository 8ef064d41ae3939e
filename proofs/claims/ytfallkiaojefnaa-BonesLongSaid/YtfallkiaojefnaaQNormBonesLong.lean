/- Rounded quotients by the floor of a root: their squares' sum, and how near two of them are. Plain. -/
import Derived.Test.YtfallkiaojefnaaQExactBonesLong
namespace Go.Proofs.Ytfallkiaojefnaa.QNormBonesLong
open Go.Proofs.Ytfallkiaojefnaa.QExactBonesLong
set_option linter.unusedVariables false
theorem sqn (a : Int) : 0 ≤ a * a := by
  rcases Int.le_total 0 a with h | h
  · exact Int.mul_nonneg h h
  · have := Int.mul_nonneg (Int.neg_nonneg.mpr h) (Int.neg_nonneg.mpr h); rwa [Int.neg_mul_neg] at this
theorem cs4 (a b c d : Int) : (a+b+c+d)*(a+b+c+d) ≤ 4*(a*a+b*b+c*c+d*d) := by
  have h1 := sqn (a-b); have h2 := sqn (a-c); have h3 := sqn (a-d); have h4 := sqn (b-c); have h5 := sqn (b-d); have h6 := sqn (c-d)
  grind
theorem qv_rem (n r : Int) (hr : 1 ≤ r) : ∃ e, qv n r * r = n * 65536 + e ∧ -r ≤ 2 * e ∧ 2 * e ≤ r := by
  have h1 := Int.mul_ediv_self_le (x := 2 * n * 65536 + r) (k := 2 * r) (by omega)
  have h2 := Int.lt_mul_ediv_self_add (x := 2 * n * 65536 + r) (k := 2 * r) (by omega)
  refine ⟨qv n r * r - n * 65536, by omega, ?_, ?_⟩
  all_goals
    have e : 2 * r * ((2 * n * 65536 + r) / (2 * r)) = 2 * (qv n r * r) := by unfold qv; grind
    rw [e] at h1 h2
    generalize qv n r * r = u at *
    omega
theorem tb (n e r a : Int) (h0 : n ≤ a) (h1 : -n ≤ a) (h2 : -r ≤ 2 * e) (h3 : 2 * e ≤ r) : -(a * r) ≤ 2 * (n * e) ∧ 2 * (n * e) ≤ a * r := by
  have k1 := Int.mul_nonneg (a := a - n) (b := r + 2 * e) (by omega) (by omega)
  have k2 := Int.mul_nonneg (a := a + n) (b := r - 2 * e) (by omega) (by omega)
  have k3 := Int.mul_nonneg (a := a - n) (b := r - 2 * e) (by omega) (by omega)
  have k4 := Int.mul_nonneg (a := a + n) (b := r + 2 * e) (by omega) (by omega)
  constructor <;> grind
theorem eb (e r : Int) (h2 : -r ≤ 2 * e) (h3 : 2 * e ≤ r) : 0 ≤ e * e ∧ 4 * (e * e) ≤ r * r := by
  have k1 := Int.mul_nonneg (a := r - 2 * e) (b := r + 2 * e) (by omega) (by omega)
  exact ⟨sqn e, by grind⟩
theorem sq_lt' {a b : Int} (hb : 0 ≤ b) (h : a * a < b * b) : a < b := by
  rcases Int.lt_or_le a b with c | c
  · exact c
  · have := Int.mul_le_mul c c hb (by omega); omega
theorem norm4 (A B C D r : Int) (hr : 1073741824 ≤ r) (h0 : r * r ≤ A * A + B * B + C * C + D * D) (h1 : A * A + B * B + C * C + D * D < (r + 1) * (r + 1)) :
    4294836200 ≤ qv A r * qv A r + qv B r * qv B r + qv C r * qv C r + qv D r * qv D r ∧ qv A r * qv A r + qv B r * qv B r + qv C r * qv C r + qv D r * qv D r ≤ 4295098390 := by
  obtain ⟨e1, p1, a1, b1⟩ := qv_rem A r (by omega)
  obtain ⟨e2, p2, a2, b2⟩ := qv_rem B r (by omega)
  obtain ⟨e3, p3, a3, b3⟩ := qv_rem C r (by omega)
  obtain ⟨e4, p4, a4, b4⟩ := qv_rem D r (by omega)
  generalize qv A r = u1 at *
  generalize qv B r = u2 at *
  generalize qv C r = u3 at *
  generalize qv D r = u4 at *
  have x1 : A ≤ (A.natAbs : Int) ∧ -A ≤ (A.natAbs : Int) ∧ (A.natAbs : Int) * A.natAbs = A * A := ⟨by omega, by omega, Int.natAbs_mul_self' A⟩
  have x2 : B ≤ (B.natAbs : Int) ∧ -B ≤ (B.natAbs : Int) ∧ (B.natAbs : Int) * B.natAbs = B * B := ⟨by omega, by omega, Int.natAbs_mul_self' B⟩
  have x3 : C ≤ (C.natAbs : Int) ∧ -C ≤ (C.natAbs : Int) ∧ (C.natAbs : Int) * C.natAbs = C * C := ⟨by omega, by omega, Int.natAbs_mul_self' C⟩
  have x4 : D ≤ (D.natAbs : Int) ∧ -D ≤ (D.natAbs : Int) ∧ (D.natAbs : Int) * D.natAbs = D * D := ⟨by omega, by omega, Int.natAbs_mul_self' D⟩
  generalize (A.natAbs : Int) = n1 at *
  generalize (B.natAbs : Int) = n2 at *
  generalize (C.natAbs : Int) = n3 at *
  generalize (D.natAbs : Int) = n4 at *
  have t1 := tb A e1 r n1 x1.1 x1.2.1 a1 b1
  have t2 := tb B e2 r n2 x2.1 x2.2.1 a2 b2
  have t3 := tb C e3 r n3 x3.1 x3.2.1 a3 b3
  have t4 := tb D e4 r n4 x4.1 x4.2.1 a4 b4
  have s1 := eb e1 r a1 b1
  have s2 := eb e2 r a2 b2
  have s3 := eb e3 r a3 b3
  have s4 := eb e4 r a4 b4
  have cs := cs4 n1 n2 n3 n4
  rw [x1.2.2, x2.2.2, x3.2.2, x4.2.2] at cs
  have hn : n1 + n2 + n3 + n4 < 2 * (r + 1) := sq_lt' (by omega) (by grind)
  have hnr : (n1 + n2 + n3 + n4) * r ≤ (2 * r + 1) * r := Int.mul_le_mul_of_nonneg_right (by omega) (by omega)
  have key : (u1 * u1 + u2 * u2 + u3 * u3 + u4 * u4) * (r * r) = 4294967296 * (A * A + B * B + C * C + D * D) + 131072 * (A * e1 + B * e2 + C * e3 + D * e4) + (e1 * e1 + e2 * e2 + e3 * e3 + e4 * e4) := by
    have : (u1 * u1 + u2 * u2 + u3 * u3 + u4 * u4) * (r * r) = (u1 * r) * (u1 * r) + (u2 * r) * (u2 * r) + (u3 * r) * (u3 * r) + (u4 * r) * (u4 * r) := by grind
    rw [this, p1, p2, p3, p4]; grind
  have hrr : 1073741824 * r ≤ r * r := Int.mul_le_mul_of_nonneg_right hr (by omega)
  have hS : A * A + B * B + C * C + D * D ≤ r * r + 2 * r := by grind
  have hnr' : n1 * r + n2 * r + n3 * r + n4 * r ≤ 2 * (r * r) + r := by grind
  generalize u1 * u1 + u2 * u2 + u3 * u3 + u4 * u4 = Q at *
  generalize A * A + B * B + C * C + D * D = S at *
  clear p1 p2 p3 p4 x1 x2 x3 x4 cs hn hnr h1
  generalize A * e1 = y1 at *
  generalize B * e2 = y2 at *
  generalize C * e3 = y3 at *
  generalize D * e4 = y4 at *
  generalize e1 * e1 = z1 at *
  generalize e2 * e2 = z2 at *
  generalize e3 * e3 = z3 at *
  generalize e4 * e4 = z4 at *
  generalize n1 * r = w1 at *
  generalize n2 * r = w2 at *
  generalize n3 * r = w3 at *
  generalize n4 * r = w4 at *
  generalize hR : r * r = R at *
  have hR0 : 0 < R := by omega
  constructor
  · refine Int.le_of_mul_le_mul_right (a := R) ?_ hR0
    rw [key]; omega
  · refine Int.le_of_mul_le_mul_right (a := R) ?_ hR0
    rw [key]; omega
theorem sq_le' {a b : Int} (hb : 0 ≤ b) (h : a * a ≤ b * b) : a ≤ b := by
  rcases Int.lt_or_le b a with c | c
  · have := Int.mul_le_mul (show b + 1 ≤ a from by omega) (show b + 1 ≤ a from by omega) (by omega) (by omega)
    have : (b + 1) * (b + 1) = b * b + 2 * b + 1 := by grind
    omega
  · exact c
theorem ab1 (n e a : Int) (h0 : n ≤ a) (h1 : -n ≤ a) (h2 : -1 ≤ e) (h3 : e ≤ 1) : n * e ≤ a := by
  have k1 := Int.mul_nonneg (a := a - n) (b := 1 + e) (by omega) (by omega)
  have k2 := Int.mul_nonneg (a := a + n) (b := 1 - e) (by omega) (by omega)
  grind
theorem e1 (e : Int) (h2 : -1 ≤ e) (h3 : e ≤ 1) : e * e ≤ 1 := by
  have : e = -1 ∨ e = 0 ∨ e = 1 := by omega
  rcases this with rfl | rfl | rfl <;> decide
theorem tri4 (Z1 Z2 Z3 Z4 e1' e2' e3' e4' w z : Int) (hw : 0 ≤ w) (hz : 0 ≤ z) (h : Z1 * Z1 + Z2 * Z2 + Z3 * Z3 + Z4 * Z4 ≤ z * z) (b1 : -1 ≤ e1' ∧ e1' ≤ 1) (b2 : -1 ≤ e2' ∧ e2' ≤ 1) (b3 : -1 ≤ e3' ∧ e3' ≤ 1) (b4 : -1 ≤ e4' ∧ e4' ≤ 1) :
    (Z1 + w * e1') * (Z1 + w * e1') + (Z2 + w * e2') * (Z2 + w * e2') + (Z3 + w * e3') * (Z3 + w * e3') + (Z4 + w * e4') * (Z4 + w * e4') ≤ (z + 2 * w) * (z + 2 * w) := by
  have x1 : Z1 ≤ (Z1.natAbs : Int) ∧ -Z1 ≤ (Z1.natAbs : Int) ∧ (Z1.natAbs : Int) * Z1.natAbs = Z1 * Z1 := ⟨by omega, by omega, Int.natAbs_mul_self' Z1⟩
  have x2 : Z2 ≤ (Z2.natAbs : Int) ∧ -Z2 ≤ (Z2.natAbs : Int) ∧ (Z2.natAbs : Int) * Z2.natAbs = Z2 * Z2 := ⟨by omega, by omega, Int.natAbs_mul_self' Z2⟩
  have x3 : Z3 ≤ (Z3.natAbs : Int) ∧ -Z3 ≤ (Z3.natAbs : Int) ∧ (Z3.natAbs : Int) * Z3.natAbs = Z3 * Z3 := ⟨by omega, by omega, Int.natAbs_mul_self' Z3⟩
  have x4 : Z4 ≤ (Z4.natAbs : Int) ∧ -Z4 ≤ (Z4.natAbs : Int) ∧ (Z4.natAbs : Int) * Z4.natAbs = Z4 * Z4 := ⟨by omega, by omega, Int.natAbs_mul_self' Z4⟩
  generalize (Z1.natAbs : Int) = n1 at *
  generalize (Z2.natAbs : Int) = n2 at *
  generalize (Z3.natAbs : Int) = n3 at *
  generalize (Z4.natAbs : Int) = n4 at *
  have t1 := ab1 Z1 e1' n1 x1.1 x1.2.1 b1.1 b1.2
  have t2 := ab1 Z2 e2' n2 x2.1 x2.2.1 b2.1 b2.2
  have t3 := ab1 Z3 e3' n3 x3.1 x3.2.1 b3.1 b3.2
  have t4 := ab1 Z4 e4' n4 x4.1 x4.2.1 b4.1 b4.2
  have cs := cs4 n1 n2 n3 n4
  rw [x1.2.2, x2.2.2, x3.2.2, x4.2.2] at cs
  have hn : n1 + n2 + n3 + n4 ≤ 2 * z := sq_le' (by omega) (by grind)
  have q1 := e1 e1' b1.1 b1.2
  have q2 := e1 e2' b2.1 b2.2
  have q3 := e1 e3' b3.1 b3.2
  have q4 := e1 e4' b4.1 b4.2
  have m1 : w * (Z1 * e1' + Z2 * e2' + Z3 * e3' + Z4 * e4') ≤ w * (2 * z) := Int.mul_le_mul_of_nonneg_left (by omega) hw
  have m2 : w * w * (e1' * e1' + e2' * e2' + e3' * e3' + e4' * e4') ≤ w * w * 4 := Int.mul_le_mul_of_nonneg_left (by omega) (sqn w)
  clear t1 t2 t3 t4 cs hn q1 q2 q3 q4 x1 x2 x3 x4
  grind
theorem near1 (p e a b r r' : Int) (A A' : Int) (hA : A = p * a) (hA' : A' = (p + e) * b) (ha : 8192 ≤ a) (hb : 8192 ≤ b) (hr : 1 ≤ r) (hr' : 1 ≤ r') (he : -1 ≤ e ∧ e ≤ 1) (hAr : -r ≤ A ∧ A ≤ r) (h1 : a * r' ≤ b * (r + 1) + 2 * (a * b)) (h2 : b * r ≤ a * (r' + 1) + 2 * (a * b)) (hv : b * 60000 ≤ r') :
    qv A r - qv A' r' ≤ 4 ∧ -4 ≤ qv A r - qv A' r' := by
  obtain ⟨f, p1, a1, b1⟩ := qv_rem A r hr
  obtain ⟨f', p2, a2, b2⟩ := qv_rem A' r' hr'
  generalize qv A r = u at *
  generalize qv A' r' = u' at *
  have hrr : 0 < r * r' := Int.mul_pos (by omega) (by omega)
  have hab : 0 < a * b := Int.mul_pos (by omega) (by omega)
  have hall : 0 < a * (r * r') := Int.mul_pos (by omega) hrr
  -- a (A r' - A' r) = A (a r' - b r) - a b e r
  have k0 : a * (A * r' - A' * r) = A * (a * r' - b * r) - a * b * e * r := by rw [hA, hA']; grind
  have d1 : a * r' - b * r ≤ 2 * (a * b) + a + b := by grind
  have d2 : -(2 * (a * b) + a + b) ≤ a * r' - b * r := by grind
  have w1 : A * (a * r' - b * r) ≤ r * (2 * (a * b) + a + b) ∧ -(r * (2 * (a * b) + a + b)) ≤ A * (a * r' - b * r) := by
    generalize a * r' - b * r = X at *
    generalize 2 * (a * b) + a + b = Y at *
    have k1 := Int.mul_nonneg (a := r - A) (b := Y + X) (by omega) (by omega)
    have k2 := Int.mul_nonneg (a := r + A) (b := Y - X) (by omega) (by omega)
    have k3 := Int.mul_nonneg (a := r - A) (b := Y - X) (by omega) (by omega)
    have k4 := Int.mul_nonneg (a := r + A) (b := Y + X) (by omega) (by omega)
    constructor <;> grind
  have habr : 0 < a * b * r := Int.mul_pos hab (by omega)
  have w2 : a * b * e * r ≤ a * b * r ∧ -(a * b * r) ≤ a * b * e * r := by
    have : e = -1 ∨ e = 0 ∨ e = 1 := by omega
    rcases this with rfl | rfl | rfl <;> constructor <;> grind
  have aa : 8192 * a ≤ a * b := by have := Int.mul_le_mul_of_nonneg_left hb (show 0 ≤ a from by omega); grind
  have bb : 8192 * b ≤ a * b := Int.mul_le_mul_of_nonneg_right ha (by omega)
  have aar : 8192 * (a * r) ≤ a * b * r := by have := Int.mul_le_mul_of_nonneg_right aa (show 0 ≤ r from by omega); grind
  have bbr : 8192 * (b * r) ≤ a * b * r := by have := Int.mul_le_mul_of_nonneg_right bb (show 0 ≤ r from by omega); grind
  have vv : 60000 * (a * b * r) ≤ a * (r * r') := by
    have := Int.mul_le_mul_of_nonneg_left hv (show 0 ≤ a * r from Int.le_of_lt (Int.mul_pos (by omega) (by omega)))
    grind
  have E1 : a * (f * r') ≤ a * (r * r') ∧ 2 * (a * (f * r')) ≤ a * (r * r') ∧ -(a * (r * r')) ≤ 2 * (a * (f * r')) := by
    have k1 := Int.mul_nonneg (a := r - 2 * f) (b := a * r') (by omega) (Int.le_of_lt (Int.mul_pos (by omega) (by omega)))
    have k2 := Int.mul_nonneg (a := r + 2 * f) (b := a * r') (by omega) (Int.le_of_lt (Int.mul_pos (by omega) (by omega)))
    refine ⟨?_, ?_, ?_⟩ <;> grind
  have E2 : 2 * (a * (f' * r)) ≤ a * (r * r') ∧ -(a * (r * r')) ≤ 2 * (a * (f' * r)) := by
    have k1 := Int.mul_nonneg (a := r' - 2 * f') (b := a * r) (by omega) (Int.le_of_lt (Int.mul_pos (by omega) (by omega)))
    have k2 := Int.mul_nonneg (a := r' + 2 * f') (b := a * r) (by omega) (Int.le_of_lt (Int.mul_pos (by omega) (by omega)))
    refine ⟨?_, ?_⟩ <;> grind
  -- (u - u') a r r' = One a (A r' - A' r) + a (f r' - f' r)
  have key : (u - u') * (a * (r * r')) = 65536 * (A * (a * r' - b * r) - a * b * e * r) + (a * (f * r') - a * (f' * r)) := by
    rw [← k0]
    have : (u - u') * (a * (r * r')) = a * ((u * r) * r' - (u' * r') * r) := by grind
    rw [this, p1, p2]; grind
  have w3 : r * (2 * (a * b) + a + b) = 2 * (a * b * r) + a * r + b * r := by grind
  rw [w3] at w1
  generalize A * (a * r' - b * r) = m1 at *
  generalize a * b * e * r = m2 at *
  generalize a * b * r = m3 at *
  generalize a * (f * r') = m4 at *
  generalize a * (f' * r) = m5 at *
  generalize a * (r * r') = m6 at *
  generalize a * r = m7 at *
  generalize b * r = m8 at *
  constructor
  · have : u - u' < 5 := by
      refine Int.lt_of_mul_lt_mul_right (a := m6) ?_ (by omega)
      rw [key]; omega
    omega
  · have : -5 < u - u' := by
      refine Int.lt_of_mul_lt_mul_right (a := m6) ?_ (by omega)
      rw [key]; omega
    omega
end Go.Proofs.Ytfallkiaojefnaa.QNormBonesLong
