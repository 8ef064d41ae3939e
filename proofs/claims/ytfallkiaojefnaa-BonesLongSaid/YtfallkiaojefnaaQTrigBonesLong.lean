/- Sines and cosines: the sum of their squares. Under no condition but what stands at each. -/
import Derived.Test.YtfallkiaojefnaaQNormBonesLong
import Derived.Laws.BitsLemmas
namespace Go.Proofs.Ytfallkiaojefnaa.QTrigBonesLong
open Go.RowKit Go.Proofs.YtfallkiaojefnaaW.PrintWords Go.Proofs.YtfallkiaojefnaaW.PrintLast Go.Proofs.YtfallkiaojefnaaW.PrintMore Go.Proofs.Ytfallkiaojefnaa.Ext Go.Proofs.Ytfallkiaojefnaa.PBonesLong Go.Proofs.Ytfallkiaojefnaa.NumBonesLong
set_option linter.unusedVariables false
theorem and_turn (a : Int) : Go.bits .and .i64 a 65535 = a % 65536 := by
  have h : (BitVec.ofInt 64 a &&& BitVec.ofInt 64 65535).toNat = (a % 18446744073709551616).toNat % 65536 := by
    rw [BitVec.toNat_and, BitVec.toNat_ofInt, BitVec.toNat_ofInt, show ((65535 : Int) % ((2 ^ 64 : Nat) : Int)).toNat = 2 ^ 16 - 1 from by decide, Nat.and_two_pow_sub_one_eq_mod]
    rfl
  show IntKind.i64.wrap ((BitVec.ofInt 64 a &&& BitVec.ofInt 64 65535).toNat : Int) = _
  rw [IntKind.wrap_i64]
  have : ((BitVec.ofInt 64 a &&& BitVec.ofInt 64 65535).toNat : Int) = a % 65536 := by rw [h]; omega
  omega
abbrev tab := trig_first.tab
theorem tab_ok : ∀ k : Nat, k < 64 → 0 ≤ rd tab k ∧ rd tab k ≤ rd tab ((k + 1 : Nat) : Int) ∧ rd tab ((k + 1 : Nat) : Int) ≤ 65536 ∧ rd tab ((k + 1 : Nat) : Int) ≤ rd tab k + 2000 ∧ 3844000000 ≤ rd tab k * rd tab k + rd tab ((63 - k : Nat) : Int) * rd tab ((63 - k : Nat) : Int) := by decide +kernel
theorem first_in (k f : Nat) (hk : k < 64) (hf : f < 256) : ∃ v, trig_first.f (256 * (k : Int) + f) = some v ∧ rd tab k ≤ v ∧ v ≤ rd tab ((k + 1 : Nat) : Int) := by
  obtain ⟨t0, t1, t2, t3, _⟩ := tab_ok k hk
  have e1 : Int.tdiv (256 * (k : Int) + f) 256 = k := by rw [Int.tdiv_eq_ediv_of_nonneg (by omega)]; omega
  have e2 : Int.tmod (256 * (k : Int) + f) 256 = f := by rw [Int.tmod_eq_emod_of_nonneg (by omega)]; omega
  have w0 : wrap64 (k : Int) = k := wrap_in (by omega) (by omega)
  have w1 : wrap64 ((k : Int) + 1) = ((k + 1 : Nat) : Int) := by rw [wrap_in (by omega) (by omega)]; omega
  unfold trig_first.f
  rw [if_pos (by omega), e1, e2, w0, w1]
  generalize rd trig_first.tab (k : Int) = a at *
  generalize rd trig_first.tab ((k + 1 : Nat) : Int) = b at *
  by_cases c : (f : Int) = 0
  · rw [if_pos c]; exact ⟨a, rfl, Int.le_refl _, t1⟩
  · rw [if_neg c]
    have m0 : 0 ≤ (b - a) * f := Int.mul_nonneg (by omega) (by omega)
    have m1 : (b - a) * f ≤ (b - a) * 255 := Int.mul_le_mul_of_nonneg_left (by omega) (by omega)
    rw [wrap_in (x := b - a) (by omega) (by omega)]
    generalize (b - a) * (f : Int) = m at *
    rw [wrap_in (x := m) (by omega) (by omega), wrap_in (x := m + 128) (by omega) (by omega), Int.tdiv_eq_ediv_of_nonneg (by omega), wrap_in (x := (m + 128) / 256) (by omega) (by omega), wrap_in (x := a + (m + 128) / 256) (by omega) (by omega)]
    exact ⟨_, rfl, by omega, by omega⟩
theorem first_end : trig_first.f 16384 = some 65536 := by decide +kernel
theorem sq_mono {a b : Int} (h0 : 0 ≤ a) (h : a ≤ b) : a * a ≤ b * b := Int.mul_le_mul h h h0 (by omega)
theorem first_pair (r : Nat) (h : r ≤ 16384) : ∃ a b, trig_first.f (r : Int) = some a ∧ trig_first.f (16384 - (r : Int)) = some b ∧ (0 ≤ a ∧ a ≤ 65536) ∧ (0 ≤ b ∧ b ≤ 65536) ∧ 3844000000 ≤ a * a + b * b := by
  by_cases he : r = 16384
  · subst he
    obtain ⟨v, hv, h1, h2⟩ := first_in 0 0 (by omega) (by omega)
    obtain ⟨t0, t1, t2, _⟩ := tab_ok 0 (by omega)
    exact ⟨65536, v, first_end, hv, by omega, by omega, by have := sq_mono (Int.le_refl 0) (show (0 : Int) ≤ v from by omega); omega⟩
  obtain ⟨k, f, hk, hf, e⟩ : ∃ k f : Nat, k < 64 ∧ f < 256 ∧ r = 256 * k + f := ⟨r / 256, r % 256, by omega, by omega, by omega⟩
  obtain ⟨a, ha, a0, a1⟩ := first_in k f hk hf
  obtain ⟨t0, t1, t2, t3, t4⟩ := tab_ok k hk
  have er : (256 * (k : Int) + f) = (r : Int) := by omega
  rw [er] at ha
  have sa := sq_mono t0 a0
  obtain ⟨u0, u1, u2, _⟩ := tab_ok (63 - k) (by omega)
  have fin : ∀ b, trig_first.f (16384 - (r : Int)) = some b → rd tab ((63 - k : Nat) : Int) ≤ b → b ≤ 65536 → ∃ a b, trig_first.f (r : Int) = some a ∧ trig_first.f (16384 - (r : Int)) = some b ∧ (0 ≤ a ∧ a ≤ 65536) ∧ (0 ≤ b ∧ b ≤ 65536) ∧ 3844000000 ≤ a * a + b * b := fun b hb b0 b1 => by
    have sb := sq_mono u0 b0
    exact ⟨a, b, ha, hb, by omega, by omega, by omega⟩
  by_cases hf0 : f = 0
  · by_cases hk0 : k = 0
    · have e1 : 16384 - (r : Int) = 16384 := by omega
      exact fin 65536 (by rw [e1]; exact first_end) (by omega) (by omega)
    · obtain ⟨b, hb, b0, b1⟩ := first_in (64 - k) 0 (by omega) (by omega)
      obtain ⟨s0, s1, s2, _⟩ := tab_ok (64 - k) (by omega)
      rw [show (256 * ((64 - k : Nat) : Int) + ((0 : Nat) : Int)) = 16384 - (r : Int) from by omega] at hb
      rw [show (63 - k + 1 : Nat) = 64 - k from by omega] at u1
      exact fin b hb (by omega) (by omega)
  · obtain ⟨b, hb, b0, b1⟩ := first_in (63 - k) (256 - f) (by omega) (by omega)
    rw [show (256 * ((63 - k : Nat) : Int) + ((256 - f : Nat) : Int)) = 16384 - (r : Int) from by omega] at hb
    exact fin b hb b0 (by omega)
theorem sin_at (q : Nat) (r : Nat) (hq : q < 4) (hr : r < 16384) (a : Int) (ha : a % 65536 = 16384 * q + r) : trig_Sin.f a = if q = 0 then trig_first.f r else if q = 1 then trig_first.f (16384 - (r : Int)) else if q = 2 then (trig_first.f r).map fun t => wrap64 (-t) else (trig_first.f (16384 - (r : Int))).map fun t => wrap64 (-t) := by
  unfold trig_Sin.f
  rw [and_turn, ha]
  have e1 : Int.tdiv (16384 * (q : Int) + r) 16384 = q := by rw [Int.tdiv_eq_ediv_of_nonneg (by omega)]; omega
  have e2 : Int.tmod (16384 * (q : Int) + r) 16384 = r := by rw [Int.tmod_eq_emod_of_nonneg (by omega)]; omega
  rw [e1, e2, wrap_in (x := (q : Int)) (by omega) (by omega), wrap_in (x := 16384 - (r : Int)) (by omega) (by omega)]
  have hq4 : q = 0 ∨ q = 1 ∨ q = 2 ∨ q = 3 := by omega
  rcases hq4 with rfl | rfl | rfl | rfl
  · cases trig_first.f (r : Int) <;> rfl
  · cases trig_first.f (16384 - (r : Int)) <;> rfl
  · cases trig_first.f (r : Int) <;> rfl
  · cases trig_first.f (16384 - (r : Int)) <;> rfl
theorem neg_sq (a : Int) : (-a) * (-a) = a * a := by grind
theorem trig_pair (a : Int) (h0 : 0 ≤ a) (h1 : a < 65536) : ∃ s c, trig_Sin.f a = some s ∧ trig_Cos.f a = some c ∧ (-65536 ≤ s ∧ s ≤ 65536) ∧ (-65536 ≤ c ∧ c ≤ 65536) ∧ 3844000000 ≤ s * s + c * c := by
  obtain ⟨q, r, hq, hr, e⟩ : ∃ q r : Nat, q < 4 ∧ r < 16384 ∧ a = 16384 * q + r := ⟨(a / 16384).toNat, (a % 16384).toNat, by omega, by omega, by omega⟩
  have es := sin_at q r hq hr a (by omega)
  have ec : trig_Cos.f a = trig_Sin.f (a + 16384) := by
    unfold trig_Cos.f
    rw [and_turn, show a % 65536 = a from by omega, wrap_in (by omega) (by omega)]
    cases trig_Sin.f (a + 16384) <;> rfl
  have ec2 := sin_at ((q + 1) % 4) r (by omega) hr (a + 16384) (by omega)
  rw [← ec] at ec2
  obtain ⟨x, y, hx, hy, bx, by_, hs⟩ := first_pair r (by omega)
  have wx : wrap64 (-x) = -x := wrap_in (by omega) (by omega)
  have wy : wrap64 (-y) = -y := wrap_in (by omega) (by omega)
  have hq4 : q = 0 ∨ q = 1 ∨ q = 2 ∨ q = 3 := by omega
  rcases hq4 with rfl | rfl | rfl | rfl
  · exact ⟨x, y, es.trans hx, ec2.trans hy, by omega, by omega, by omega⟩
  · exact ⟨y, -x, es.trans hy, ec2.trans (by simp [hx, wx]), by omega, by omega, by rw [neg_sq]; omega⟩
  · exact ⟨-x, -y, es.trans (by simp [hx, wx]), ec2.trans (by simp [hy, wy]), by omega, by omega, by rw [neg_sq, neg_sq]; omega⟩
  · exact ⟨-y, x, es.trans (by simp [hy, wy]), ec2.trans hx, by omega, by omega, by rw [neg_sq]; omega⟩
end Go.Proofs.Ytfallkiaojefnaa.QTrigBonesLong
