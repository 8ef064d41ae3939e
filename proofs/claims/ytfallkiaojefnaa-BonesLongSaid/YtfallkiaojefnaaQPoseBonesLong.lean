/- Poses: what quat.Of and tourref5's Pose compute. Under no condition but what stands at each. -/
import Derived.Test.YtfallkiaojefnaaQTrigBonesLong
import Derived.Test.YtfallkiaojefnaaSkelBonesLong
namespace Go.Proofs.Ytfallkiaojefnaa.QPoseBonesLong
open Go.RowKit Go.Proofs.YtfallkiaojefnaaW.PrintWords Go.Proofs.YtfallkiaojefnaaW.PrintLast Go.Proofs.YtfallkiaojefnaaW.PrintMore Go.Proofs.Ytfallkiaojefnaa.Ext Go.Proofs.Ytfallkiaojefnaa.PBonesLong Go.Proofs.Ytfallkiaojefnaa.NumBonesLong Go.Proofs.Ytfallkiaojefnaa.SrcBonesLong Go.Proofs.Ytfallkiaojefnaa.SkelBonesLong Go.Proofs.Ytfallkiaojefnaa.QUnitBonesLong Go.Proofs.Ytfallkiaojefnaa.QExactBonesLong Go.Proofs.Ytfallkiaojefnaa.QNormBonesLong Go.Proofs.Ytfallkiaojefnaa.QTrigBonesLong
set_option linter.unusedVariables false
theorem mul_bd {a b A B : Int} (ha : -A ≤ a ∧ a ≤ A) (hb : -B ≤ b ∧ b ≤ B) : -(A * B) ≤ a * b ∧ a * b ≤ A * B := by
  have h1 : a.natAbs ≤ A.natAbs := by omega
  have h2 : b.natAbs ≤ B.natAbs := by omega
  have h3 : (a * b).natAbs ≤ (A * B).natAbs := by rw [Int.natAbs_mul, Int.natAbs_mul]; exact Nat.mul_le_mul h1 h2
  have h4 : 0 ≤ A * B := Int.mul_nonneg (by omega) (by omega)
  omega
theorem mul_near (a n : Int) (ha : -2097152 ≤ a ∧ a ≤ 2097152) (hn : -2097152 ≤ n ∧ n ≤ 2097152) : ∃ f, 65536 * mulV a n = a * n + f ∧ -32768 ≤ f ∧ f ≤ 32768 := by
  unfold mulV mulDivV
  have c1 : clampV 65536 = 65536 := by decide +kernel
  have a1 : absV 65536 = 65536 := by decide +kernel
  rw [c1, clampV_id (a := a) (by omega) (by omega), clampV_id (a := n) (by omega) (by omega), if_neg (by omega), a1]
  have key : ∀ (neg : Bool) (N : Int), 0 ≤ N → N ≤ 4398046511104 → ∃ g, 65536 * roundV neg N 65536 = (if neg = true then -N else N) + g ∧ -32768 ≤ g ∧ g ≤ 32768 := by
    intro neg N h0 h1
    unfold roundV
    simp only [if_neg (show ¬ (65536 : Int) ≤ N / 18446744073709551616 by omega), if_neg (show ¬ 1099511627776 < N / 65536 by omega)]
    cases neg
    · simp only [Bool.false_eq_true, if_false]
      by_cases c : 65536 - N % 65536 ≤ N % 65536
      · rw [if_pos c, clampV_id (by omega) (by omega)]
        exact ⟨65536 * (N / 65536 + 1) - N, by omega, by omega, by omega⟩
      · rw [if_neg c, clampV_id (by omega) (by omega)]
        exact ⟨65536 * (N / 65536) - N, by omega, by omega, by omega⟩
    · simp only [if_true]
      by_cases c : 65536 - N % 65536 < N % 65536
      · rw [if_pos c, clampV_id (by omega) (by omega)]
        exact ⟨65536 * -(N / 65536 + 1) + N, by omega, by omega, by omega⟩
      · rw [if_neg c, clampV_id (by omega) (by omega)]
        exact ⟨65536 * -(N / 65536) + N, by omega, by omega, by omega⟩
  have hneg : negV a n 65536 = if n < 0 then !(decide (a < 0)) else decide (a < 0) := by
    unfold negV
    rw [if_neg (by omega)]
  rw [hneg]
  have a0 := absV_nn a
  have n0 := absV_nn n
  have am := absV_le ha.1 ha.2
  have nm := absV_le hn.1 hn.2
  have p0 : 0 ≤ absV a * absV n := Int.mul_nonneg a0 n0
  have p1 : absV a * absV n ≤ 2097152 * 2097152 := Int.mul_le_mul am nm n0 (by omega)
  obtain ⟨g, h1, h2, h3⟩ := key (if n < 0 then !(decide (a < 0)) else decide (a < 0)) (absV a * absV n) p0 (by omega)
  refine ⟨g, ?_, h2, h3⟩
  rw [h1]
  by_cases c : n < 0 <;> by_cases d : a < 0
  · have e1 : absV a = -a := by unfold absV; rw [if_pos d]
    have e2 : absV n = -n := by unfold absV; rw [if_pos c]
    rw [if_pos c, decide_eq_true d, e1, e2, Int.neg_mul_neg]; simp
  · have e1 : absV a = a := by unfold absV; rw [if_neg d]
    have e2 : absV n = -n := by unfold absV; rw [if_pos c]
    rw [if_pos c, decide_eq_false d, e1, e2, Int.mul_neg]; simp
  · have e1 : absV a = -a := by unfold absV; rw [if_pos d]
    have e2 : absV n = n := by unfold absV; rw [if_neg c]
    rw [if_neg c, decide_eq_true d, e1, e2, Int.neg_mul]; simp
  · have e1 : absV a = a := by unfold absV; rw [if_neg d]
    have e2 : absV n = n := by unfold absV; rw [if_neg c]
    rw [if_neg c, decide_eq_false d, e1, e2]; simp
/-- The root is great. -/
theorem root_big {out' : List Int} {n s : Nat} {m r v : Int} {l : List Int} {j : Nat} (hr : 1 ≤ r) (h1 : sqs out' n < (r + 1) * (r + 1)) (hle : rd out' j * rd out' j ≤ sqs out' n) (hv : rd out' j = v * 2 ^ s) (hm : v = m ∨ v = -m) (hs : 1073741824 ≤ m * 2 ^ s) : 1073741824 ≤ r := by
  have e : rd out' j * rd out' j = (m * 2 ^ s) * (m * 2 ^ s) := by
    rw [hv]
    rcases hm with rfl | rfl
    · rfl
    · rw [Int.neg_mul, Int.neg_mul_neg]
  have : m * 2 ^ s < r + 1 := sq_lt' (by omega) (by omega)
  omega
theorem sqs_le (out : List Int) (n : Nat) : ∀ j : Nat, j < n → rd out j * rd out j ≤ sqs out n := by
  induction n with
  | zero => intro j h; omega
  | succ n ih =>
    have hp : ∀ m, 0 ≤ sqs out m := fun m => by
      induction m with
      | zero => exact Int.le_refl _
      | succ m ih => have := sqn (rd out m); show 0 ≤ sqs out m + rd out m * rd out m; omega
    intro j hj
    show _ ≤ sqs out n + rd out n * rd out n
    by_cases c : j = n
    · subst c; have := hp j; omega
    · have := ih j (by omega); have := sqn (rd out n); omega
theorem sqs4 (out : List Int) : sqs out 4 = rd out (0 : Nat) * rd out (0 : Nat) + rd out (1 : Nat) * rd out (1 : Nat) + rd out (2 : Nat) * rd out (2 : Nat) + rd out (3 : Nat) * rd out (3 : Nat) := by
  show 0 + rd out (0 : Nat) * rd out (0 : Nat) + rd out (1 : Nat) * rd out (1 : Nat) + rd out (2 : Nat) * rd out (2 : Nat) + rd out (3 : Nat) * rd out (3 : Nat) = _
  rw [Int.zero_add]
theorem sqs3 (out : List Int) : sqs out 3 = rd out (0 : Nat) * rd out (0 : Nat) + rd out (1 : Nat) * rd out (1 : Nat) + rd out (2 : Nat) * rd out (2 : Nat) := by
  show 0 + rd out (0 : Nat) * rd out (0 : Nat) + rd out (1 : Nat) * rd out (1 : Nat) + rd out (2 : Nat) * rd out (2 : Nat) = _
  rw [Int.zero_add]
/-- quat.Unit, exactly. -/
def UnitOf (a b c d : Int) (u : Int × Int × Int × Int) : Prop := (clampV a = 0 ∧ clampV b = 0 ∧ clampV c = 0 ∧ clampV d = 0 ∧ u = (65536, 0, 0, 0)) ∨ ∃ (s : Nat) (r m : Int), 1073741824 ≤ r ∧ r * r ≤ (clampV a * 2 ^ s) * (clampV a * 2 ^ s) + (clampV b * 2 ^ s) * (clampV b * 2 ^ s) + (clampV c * 2 ^ s) * (clampV c * 2 ^ s) + (clampV d * 2 ^ s) * (clampV d * 2 ^ s) ∧ (clampV a * 2 ^ s) * (clampV a * 2 ^ s) + (clampV b * 2 ^ s) * (clampV b * 2 ^ s) + (clampV c * 2 ^ s) * (clampV c * 2 ^ s) + (clampV d * 2 ^ s) * (clampV d * 2 ^ s) < (r + 1) * (r + 1) ∧
  1073741824 ≤ m * 2 ^ s ∧ (m = clampV a ∨ m = -clampV a ∨ m = clampV b ∨ m = -clampV b ∨ m = clampV c ∨ m = -clampV c ∨ m = clampV d ∨ m = -clampV d) ∧ u = (qv (clampV a * 2 ^ s) r, qv (clampV b * 2 ^ s) r, qv (clampV c * 2 ^ s) r, qv (clampV d * 2 ^ s) r)
theorem qunit_of (a b c d : Int) : UnitOf a b c d (qunitV a b c d) := by
  obtain ⟨hA, hB⟩ := unit_ex [a, b, c, d] (by simp)
  have r0 : rd [a, b, c, d] (0 : Nat) = a := rfl
  have r1 : rd [a, b, c, d] (1 : Nat) = b := rfl
  have r2 : rd [a, b, c, d] (2 : Nat) = c := rfl
  have r3 : rd [a, b, c, d] (3 : Nat) = d := rfl
  by_cases hz : ∀ j : Nat, j < [a, b, c, d].length → clampV (rd [a, b, c, d] j) = 0
  · have h := hA hz
    refine .inl ⟨hz 0 (by simp), hz 1 (by simp), hz 2 (by simp), hz 3 (by simp), ?_⟩
    refine ev_uniq (qunit_ev a b c d) ?_
    unfold quat_Unit.f
    exact Ev.bind h (by simp only [Bool.false_eq_true, if_false]; exact Ev.now _)
  · obtain ⟨R, out', s, m, hR, ⟨hl, r, hr, h0, h1, hv⟩, ho, hs, hm, hm1, j, hj, hjm⟩ := hB hz
    have hl4 : R.length = 4 := hl
    have hbig := root_big (l := []) hr h1 (sqs_le out' _ j hj) (ho j hj) hjm hs
    have o0 : rd out' (0 : Nat) = clampV a * 2 ^ s := ho 0 (by simp)
    have o1 : rd out' (1 : Nat) = clampV b * 2 ^ s := ho 1 (by simp)
    have o2 : rd out' (2 : Nat) = clampV c * 2 ^ s := ho 2 (by simp)
    have o3 : rd out' (3 : Nat) = clampV d * 2 ^ s := ho 3 (by simp)
    have v0 : rd R (0 : Nat) = qv (rd out' (0 : Nat)) r := hv 0 (by simp)
    have v1 : rd R (1 : Nat) = qv (rd out' (1 : Nat)) r := hv 1 (by simp)
    have v2 : rd R (2 : Nat) = qv (rd out' (2 : Nat)) r := hv 2 (by simp)
    have v3 : rd R (3 : Nat) = qv (rd out' (3 : Nat)) r := hv 3 (by simp)
    have h0' : r * r ≤ sqs out' 4 := h0
    have h1' : sqs out' 4 < (r + 1) * (r + 1) := h1
    rw [sqs4, o0, o1, o2, o3] at h0' h1'
    rw [o0] at v0; rw [o1] at v1; rw [o2] at v2; rw [o3] at v3
    refine .inr ⟨s, r, m, hbig, h0', h1', hs, ?_, ?_⟩
    · have hj4 : j < 4 := hj
      rcases (by omega : j = 0 ∨ j = 1 ∨ j = 2 ∨ j = 3) with rfl | rfl | rfl | rfl
      · rw [r0] at hjm; omega
      · rw [r1] at hjm; omega
      · rw [r2] at hjm; omega
      · rw [r3] at hjm; omega
    · refine ev_uniq (qunit_ev a b c d) ?_
      unfold quat_Unit.f
      refine Ev.bind hR ?_
      simp only [if_true, if_pos (show (0 : Int) < (R.length : Int) by omega), if_pos (show (1 : Int) < (R.length : Int) by omega), if_pos (show (2 : Int) < (R.length : Int) by omega), if_pos (show (3 : Int) < (R.length : Int) by omega)]
      rw [show rd R 0 = _ from v0, show rd R 1 = _ from v1, show rd R 2 = _ from v2, show rd R 3 = _ from v3]
      exact Ev.now _
theorem unit_norm {a b c d : Int} {u : Int × Int × Int × Int} (h : UnitOf a b c d u) : 4294836200 ≤ u.1 * u.1 + u.2.1 * u.2.1 + u.2.2.1 * u.2.2.1 + u.2.2.2 * u.2.2.2 ∧ u.1 * u.1 + u.2.1 * u.2.1 + u.2.2.1 * u.2.2.1 + u.2.2.2 * u.2.2.2 ≤ 4295098390 := by
  rcases h with ⟨_, _, _, _, rfl⟩ | ⟨s, r, m, hr, h0, h1, _, _, rfl⟩
  · exact ⟨by decide, by decide⟩
  · exact norm4 _ _ _ _ r hr h0 h1
theorem sq_bd {a : Int} {m : Int} (hm : 0 ≤ m) (h : a * a < (m + 1) * (m + 1)) : -m ≤ a ∧ a ≤ m := by
  have h1 : a < m + 1 := sq_lt' (by omega) h
  have h2 : -a < m + 1 := sq_lt' (by omega) (by rw [Int.neg_mul_neg]; exact h)
  omega
/-- A quaternion of about length One. -/
def Good (q : Qt) : Prop := ((-131072 ≤ q.f0 ∧ q.f0 ≤ 131072) ∧ (-131072 ≤ q.f1 ∧ q.f1 ≤ 131072) ∧ (-131072 ≤ q.f2 ∧ q.f2 ≤ 131072) ∧ -131072 ≤ q.f3 ∧ q.f3 ≤ 131072) ∧ 3843600000 ≤ q.f0 * q.f0 + q.f1 * q.f1 + q.f2 * q.f2 + q.f3 * q.f3
theorem of_ev (x y z a : Int) (hx : -4 ≤ x ∧ x ≤ 4) (hy : -4 ≤ y ∧ y ≤ 4) (hz : 1 ≤ z ∧ z ≤ 4) (ha : 0 ≤ a ∧ a < 65536) : ∃ q : Qt, Ev (fun k => quat_Of.f k x y z a) (q.f0, q.f1, q.f2, q.f3) ∧ Good q := by
  obtain ⟨_, hB⟩ := unit_ex [x, y, z] (by simp)
  obtain ⟨R, out', s, m, hR, ⟨hl, r, hr, h0, h1, hv⟩, ho, hs, hm, hm1, j, hj, hjm⟩ := hB (fun h => by
    have h2 : clampV z = 0 := h 2 (by simp)
    rw [clampV_id (by omega) (by omega)] at h2; omega)
  have hl3 : R.length = 3 := hl
  have hbig := root_big (l := []) hr h1 (sqs_le out' _ j hj) (ho j hj) hjm hs
  have v0 : rd R (0 : Nat) = qv (rd out' (0 : Nat)) r := hv 0 (by simp)
  have v1 : rd R (1 : Nat) = qv (rd out' (1 : Nat)) r := hv 1 (by simp)
  have v2 : rd R (2 : Nat) = qv (rd out' (2 : Nat)) r := hv 2 (by simp)
  have h0' : r * r ≤ sqs out' 3 := h0
  have h1' : sqs out' 3 < (r + 1) * (r + 1) := h1
  rw [sqs3] at h0' h1'
  have hz0 : qv 0 r = 0 := by unfold qv; rw [show (2 * 0 * 65536 + r : Int) = r from by omega, Int.ediv_eq_zero_of_lt (by omega) (by omega)]
  have nn := norm4 (rd out' (0 : Nat)) (rd out' (1 : Nat)) (rd out' (2 : Nat)) 0 r hbig (by omega) (by omega)
  rw [hz0, ← v0, ← v1, ← v2] at nn
  obtain ⟨sn, cs, es, ec, bs, bc, hsc⟩ := trig_pair (a / 2) (by omega) (by omega)
  obtain ⟨l0, e0⟩ : ∃ v, rd R (0 : Nat) = v := ⟨_, rfl⟩
  obtain ⟨l1, e1⟩ : ∃ v, rd R (1 : Nat) = v := ⟨_, rfl⟩
  obtain ⟨l2, e2⟩ : ∃ v, rd R (2 : Nat) = v := ⟨_, rfl⟩
  rw [e0, e1, e2] at nn
  have q0 := sqn l0
  have q1 := sqn l1
  have q2 := sqn l2
  have b0 := sq_bd (a := l0) (m := 65537) (by omega) (by omega)
  have b1 := sq_bd (a := l1) (m := 65537) (by omega) (by omega)
  have b2 := sq_bd (a := l2) (m := 65537) (by omega) (by omega)
  obtain ⟨f0, g0, k0⟩ := mul_near l0 sn (by omega) (by omega)
  obtain ⟨f1, g1, k1⟩ := mul_near l1 sn (by omega) (by omega)
  obtain ⟨f2, g2, k2⟩ := mul_near l2 sn (by omega) (by omega)
  refine ⟨⟨cs, mulV l0 sn, mulV l1 sn, mulV l2 sn⟩, ?_, ?_⟩
  · unfold quat_Of.f
    refine Ev.bind hR ?_
    simp only [if_true, if_pos (show 3 ≤ R.length by omega), es, ec, Option.bind_some]
    rw [show rd R 0 = l0 from e0, show rd R 1 = l1 from e1, show rd R 2 = l2 from e2]
    exact Ev.bind (mul_ev _ _) (Ev.bind (mul_ev _ _) (Ev.bind (mul_ev _ _) (Ev.now _)))
  · have p0 := mul_bd b0 bs
    have p1 := mul_bd b1 bs
    have p2 := mul_bd b2 bs
    have t0 := mul_bd (a := l0 * sn) (b := f0) (A := 65537 * 65536) (B := 32768) p0 k0
    have t1 := mul_bd (a := l1 * sn) (b := f1) (A := 65537 * 65536) (B := 32768) p1 k1
    have t2 := mul_bd (a := l2 * sn) (b := f2) (A := 65537 * 65536) (B := 32768) p2 k2
    have s0 := sqn f0
    have s1 := sqn f1
    have s2 := sqn f2
    have ss : sn * sn ≤ 4294967296 := by have := mul_bd bs bs; omega
    have ss0 := sqn sn
    have key : 4294967296 * (mulV l0 sn * mulV l0 sn + mulV l1 sn * mulV l1 sn + mulV l2 sn * mulV l2 sn) = (sn * sn) * (l0 * l0 + l1 * l1 + l2 * l2) + 2 * (l0 * sn * f0 + l1 * sn * f1 + l2 * sn * f2) + (f0 * f0 + f1 * f1 + f2 * f2) := by
      have : 4294967296 * (mulV l0 sn * mulV l0 sn + mulV l1 sn * mulV l1 sn + mulV l2 sn * mulV l2 sn) = (65536 * mulV l0 sn) * (65536 * mulV l0 sn) + (65536 * mulV l1 sn) * (65536 * mulV l1 sn) + (65536 * mulV l2 sn) * (65536 * mulV l2 sn) := by grind
      rw [this, g0, g1, g2]; grind
    have low : (sn * sn) * 4294836200 ≤ (sn * sn) * (l0 * l0 + l1 * l1 + l2 * l2) := Int.mul_le_mul_of_nonneg_left (by omega) ss0
    refine ⟨⟨by simp only; omega, by simp only; omega, by simp only; omega, by simp only; omega⟩, ?_⟩
    simp only
    generalize mulV l0 sn * mulV l0 sn = M0 at *
    generalize mulV l1 sn * mulV l1 sn = M1 at *
    generalize mulV l2 sn * mulV l2 sn = M2 at *
    generalize (sn * sn) * (l0 * l0 + l1 * l1 + l2 * l2) = SL at *
    generalize sn * sn = S2 at *
    generalize cs * cs = C2 at *
    omega
theorem pose_l0 (l : List Int) (hl : l.length ≤ 4611686018427387904) (n : Nat) (hn : n ≤ 40) : ∀ d i : Nat, i + d = n → ∀ (j : Int) (P : List Qt), P.length = i → (∀ q ∈ P, Good q) → 0 ≤ j → j ≤ l.length →
    ∃ R, Ev (fun k => tourref5_Pose.l0 k P n i l j) R ∧ (∀ q ∈ R, Good q) ∧ R.length = n := by
  intro d
  induction d with
  | zero =>
    intro i hi j P hP hg h0 h1
    exact ⟨P, Ev.step (f := fun _ => some P) (fun k => by rw [tourref5_Pose.l0, if_neg (by omega)]) (Ev.now _), hg, by omega⟩
  | succ d ih =>
    intro i hi j P hP hg h0 h1
    obtain ⟨b1, j1, e1, hb1, q1, r1⟩ := n_ok l hl j 9 ⟨h0, h1⟩ (by omega)
    obtain ⟨b2, j2, e2, hb2, q2, r2⟩ := n_ok l hl j1 9 ⟨q1, r1⟩ (by omega)
    obtain ⟨b3, j3, e3, hb3, q3, r3⟩ := n_ok l hl j2 4 ⟨q2, r2⟩ (by omega)
    obtain ⟨b4, j4, e4, hb4, q4, r4⟩ := n_ok l hl j3 65536 ⟨q3, r3⟩ (by omega)
    obtain ⟨q, hq, gq⟩ := of_ev (b1 - 4) (b2 - 4) (1 + b3) b4 (by omega) (by omega) (by omega) (by omega)
    obtain ⟨R, hR, h⟩ := ih (i + 1) (by omega) j4 (P ++ [q]) (by simp [hP]) (fun x hx => by
      rcases List.mem_append.1 hx with hx | hx
      · exact hg x hx
      · rw [List.mem_singleton.1 hx]; exact gq) q4 r4
    refine ⟨R, Ev.step (fun k => by rw [tourref5_Pose.l0, if_pos (by omega)]) ?_, h⟩
    simp only [e1, e2, e3, e4, Option.bind_some]
    rw [wrap_in (x := b1 - 4) (by omega) (by omega), wrap_in (x := b2 - 4) (by omega) (by omega), wrap_in (x := 1 + b3) (by omega) (by omega), wrap_in (x := (i : Int) + 1) (by omega) (by omega)]
    refine Ev.bind hq ?_
    simp only [if_pos (show P.length < 4398046511104 by omega)]
    rw [show (i : Int) + 1 = ((i + 1 : Nat) : Int) from by omega]
    exact hR
theorem pose_ev (l : List Int) (hl : l.length ≤ 4611686018427387904) (n : Nat) (hn : n ≤ 40) : ∃ P, Ev (fun k => tourref5_Pose.f k l n) P ∧ (∀ q ∈ P, Good q) ∧ P.length = n := by
  obtain ⟨R, hR, h⟩ := pose_l0 l hl n hn n 0 (by omega) 0 [] rfl (fun q h => by simp at h) (by omega) (by omega)
  refine ⟨R, ?_, h⟩
  unfold tourref5_Pose.f tourref5_From.f
  simp only [Option.bind_some]
  exact hR
end Go.Proofs.Ytfallkiaojefnaa.QPoseBonesLong
