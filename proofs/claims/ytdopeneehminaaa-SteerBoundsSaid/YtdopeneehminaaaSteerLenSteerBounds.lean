/- How long a vector is that was cut to a length. Under the conditions that stand at each. -/
import Derived.Test.YtdopeneehminaaaSteerSteerBounds
namespace Go.Proofs.Ytdopeneehminaaa.SteerLenSteerBounds
open Go.RowKit Go.Proofs.YtdopeneehminaaaW.PrintWords Go.Proofs.YtdopeneehminaaaW.PrintLast Go.Proofs.YtdopeneehminaaaW.PrintMore Go.Proofs.Ytdopeneehminaaa.PSteerBounds Go.Proofs.Ytdopeneehminaaa.NumSteerBounds Go.Proofs.Ytdopeneehminaaa.SteerSteerBounds
set_option linter.unusedVariables false

theorem mul_bd {a b A B : Int} (ha : -A ≤ a ∧ a ≤ A) (hb : -B ≤ b ∧ b ≤ B) : -(A * B) ≤ a * b ∧ a * b ≤ A * B := by
  have h1 : a.natAbs ≤ A.natAbs := by omega
  have h2 : b.natAbs ≤ B.natAbs := by omega
  have h3 : (a * b).natAbs ≤ (A * B).natAbs := by rw [Int.natAbs_mul, Int.natAbs_mul]; exact Nat.mul_le_mul h1 h2
  have h4 : 0 ≤ A * B := Int.mul_nonneg (by omega) (by omega)
  omega
theorem sq_nn (a : Int) : 0 ≤ a * a := by
  rcases Int.le_total 0 a with h | h
  · exact Int.mul_nonneg h h
  · have := Int.mul_nonneg (show 0 ≤ -a by omega) (show 0 ≤ -a by omega)
    rwa [Int.neg_mul_neg] at this
theorem side_le {X Y l : Int} (hl : 0 ≤ l) (h : X * X + Y * Y < (l + 1) * (l + 1)) : -l ≤ X ∧ X ≤ l := by
  have hy := sq_nn Y
  have h1 : X < l + 1 := sq_lt (by omega) (by omega)
  have h2 : -X < l + 1 := sq_lt (by omega) (by rw [Int.neg_mul_neg]; omega)
  omega

/-- A direction is no longer than One, but for a unit. -/
theorem unit_len (x y : Int) : (unitV x y).1 * (unitV x y).1 + (unitV x y).2 * (unitV x y).2 ≤ 4295098376 := by
  by_cases h : clampV x = 0 ∧ clampV y = 0
  · have := ev_uniq (unit_ev x y) (unit_zero x y h.1 h.2)
    rw [this]; decide
  · obtain ⟨j, X, Y, l, _, _, _, _, _, ⟨h0, h1, h2⟩, h3, h4, he⟩ := unit_some x y h
    rw [ev_uniq (unit_ev x y) he]
    simp only
    have hX := side_le h0 h2
    have hY := side_le (X := Y) (Y := X) h0 (by omega)
    have part : ∀ Z : Int, ∃ e, 2 * l * throughV Z l = 131072 * Z + e ∧ -l ≤ e ∧ e ≤ l := by
      intro Z
      unfold throughV
      have e1 := Int.mul_ediv_add_emod (2 * Z * 65536 + l) (2 * l)
      have e2 := Int.emod_nonneg (2 * Z * 65536 + l) (show 2 * l ≠ 0 by omega)
      have e3 := Int.emod_lt_of_pos (2 * Z * 65536 + l) (show 0 < 2 * l by omega)
      exact ⟨l - (2 * Z * 65536 + l) % (2 * l), by omega, by omega, by omega⟩
    obtain ⟨e, ee, e0, e1⟩ := part X
    obtain ⟨f, ef, f0, f1⟩ := part Y
    generalize throughV X l = a at *
    generalize throughV Y l = b at *
    have m1 := mul_bd hX ⟨e0, e1⟩
    have m2 := mul_bd hY ⟨f0, f1⟩
    have m3 := mul_bd ⟨e0, e1⟩ ⟨e0, e1⟩
    have m4 := mul_bd ⟨f0, f1⟩ ⟨f0, f1⟩
    have hl2 : (l + 1) * (l + 1) = l * l + 2 * l + 1 := by grind
    have id1 : 4 * ((l * l) * (a * a + b * b)) = (2 * l * a) * (2 * l * a) + (2 * l * b) * (2 * l * b) := by grind
    rw [ee, ef] at id1
    have id2 : (131072 * X + e) * (131072 * X + e) + (131072 * Y + f) * (131072 * Y + f) = 17179869184 * (X * X + Y * Y) + 262144 * (X * e + Y * f) + (e * e + f * f) := by grind
    rw [id2] at id1
    have hll : 1073741824 * l ≤ l * l := Int.mul_le_mul_of_nonneg_right h3 h0
    have hpos : 0 < l * l := Int.mul_pos (by omega) (by omega)
    have e4 : (l * l) * (4 * (a * a + b * b)) = 4 * ((l * l) * (a * a + b * b)) := by grind
    have hfin : (l * l) * (4 * (a * a + b * b)) ≤ (l * l) * 17180393506 := by omega
    have := Int.le_of_mul_le_mul_left hfin hpos
    omega

theorem mulV_near (a n : Int) (ha : -65538 ≤ a ∧ a ≤ 65538) (hn : 0 ≤ n ∧ n ≤ 1310719) : ∃ f, 65536 * mulV a n = a * n + f ∧ -32768 ≤ f ∧ f ≤ 32768 := by
  have hb := mul_bd ha (show -1310719 ≤ n ∧ n ≤ 1310719 by omega)
  unfold mulV mulDivV
  have c1 : clampV 65536 = 65536 := by decide +kernel
  have a1 : absV 65536 = 65536 := by decide +kernel
  rw [c1, clampV_id (a := a) (by omega) (by omega), clampV_id (a := n) (by omega) (by omega), if_neg (by omega), a1]
  have hn' : absV n = n := by unfold absV; rw [if_neg (by omega)]
  rw [hn']
  have key : ∀ (neg : Bool) (N : Int), 0 ≤ N → N ≤ 100000000000 → ∃ g, 65536 * roundV neg N 65536 = (if neg = true then -N else N) + g ∧ -32768 ≤ g ∧ g ≤ 32768 := by
    intro neg N h0 h1
    unfold roundV
    simp only [if_neg (show ¬ (65536 : Int) ≤ N / 18446744073709551616 by omega), if_neg (show ¬ 1099511627776 < N / 65536 by omega)]
    cases neg
    · simp only [Bool.false_eq_true, if_false]
      by_cases c : 65536 - N % 65536 ≤ N % 65536
      · rw [if_pos c, clampV_id (by omega) (by omega)]
        exact ⟨65536 * (N / 65536 + 1) - N, by omega, by omega, by omega⟩
      · rw [if_neg c, clampV_id (by omega) (by omega)]
        exact ⟨65536 * (N / 65536) - N, by omega, by omega, by omega⟩
    · simp only [if_true]
      by_cases c : 65536 - N % 65536 < N % 65536
      · rw [if_pos c, clampV_id (by omega) (by omega)]
        exact ⟨65536 * -(N / 65536 + 1) + N, by omega, by omega, by omega⟩
      · rw [if_neg c, clampV_id (by omega) (by omega)]
        exact ⟨65536 * -(N / 65536) + N, by omega, by omega, by omega⟩
  have hneg : negV a n 65536 = decide (a < 0) := by
    unfold negV
    rw [if_neg (by omega), if_neg (by omega)]
  rw [hneg]
  by_cases h : a < 0
  · have ea : absV a = -a := by unfold absV; rw [if_pos h]
    rw [ea, decide_eq_true h]
    have e : -a * n = -(a * n) := Int.neg_mul a n
    have hnn : 0 ≤ -a * n := Int.mul_nonneg (by omega) (by omega)
    obtain ⟨g, h1, h2, h3⟩ := key true (-a * n) hnn (by omega)
    rw [if_pos rfl] at h1
    exact ⟨g, by omega, h2, h3⟩
  · have ea : absV a = a := by unfold absV; rw [if_neg h]
    rw [ea, decide_eq_false h]
    have hnn : 0 ≤ a * n := Int.mul_nonneg (by omega) (by omega)
    obtain ⟨g, h1, h2, h3⟩ := key false (a * n) hnn (by omega)
    rw [if_neg (by simp)] at h1
    exact ⟨g, by omega, h2, h3⟩

/-- What is cut to a length is no longer, but for 40 units. -/
theorem short_len (x y most : Int) (h0 : 0 ≤ most) (h1 : most ≤ 1310719) : lenV (shortV x y most).1 (shortV x y most).2 ≤ most + 40 := by
  unfold shortV
  by_cases h : lenV x y ≤ most
  · rw [if_pos h]
    show lenV (clampV x) (clampV y) ≤ _
    rw [len_clamp]; omega
  · rw [if_neg h]
    have hmx : mx most 0 = most := by unfold mx; split <;> omega
    rw [hmx]
    show lenV (mulV (unitV x y).1 most) (mulV (unitV x y).2 most) ≤ _
    have hu := unit_len x y
    generalize (unitV x y).1 = a at *
    generalize (unitV x y).2 = b at *
    have ha : -65538 ≤ a ∧ a ≤ 65538 := side_le (Y := b) (by omega) (by omega)
    have hb : -65538 ≤ b ∧ b ≤ 65538 := side_le (Y := a) (by omega) (by omega)
    obtain ⟨f, ef, f0, f1⟩ := mulV_near a most ha ⟨h0, h1⟩
    obtain ⟨g, eg, g0, g1⟩ := mulV_near b most hb ⟨h0, h1⟩
    obtain ⟨r, er, r0, r1, r2⟩ := lenV_eq (mulV a most) (mulV b most)
    have l1 := mulDivV_le a most 65536
    have l2 := mulDivV_le b most 65536
    rw [clampV_id (a := mulV a most) l1.1 l1.2, clampV_id (a := mulV b most) l2.1 l2.2] at r1
    rw [er]
    generalize mulV a most = s at *
    generalize mulV b most = t at *
    have hr : r < most + 41 := by
      refine sq_lt (by omega) ?_
      have id1 : 4294967296 * (s * s + t * t) = (65536 * s) * (65536 * s) + (65536 * t) * (65536 * t) := by grind
      rw [ef, eg] at id1
      have id2 : (a * most + f) * (a * most + f) + (b * most + g) * (b * most + g) = (most * most) * (a * a + b * b) + 2 * (most * (a * f + b * g)) + (f * f + g * g) := by grind
      rw [id2] at id1
      have n1 := Int.mul_le_mul_of_nonneg_left hu (sq_nn most)
      have m1 := mul_bd ha ⟨f0, f1⟩
      have m2 := mul_bd hb ⟨g0, g1⟩
      have n2 : most * (a * f + b * g) ≤ most * (65538 * 32768 + 65538 * 32768) := Int.mul_le_mul_of_nonneg_left (by omega) h0
      have m3 := mul_bd ⟨f0, f1⟩ ⟨f0, f1⟩
      have m4 := mul_bd ⟨g0, g1⟩ ⟨g0, g1⟩
      have e : (most + 41) * (most + 41) = most * most + 82 * most + 1681 := by grind
      have hmm : most * most ≤ 1310719 * most := Int.mul_le_mul_of_nonneg_right h1 h0
      omega
    unfold clampV
    split
    · omega
    · split <;> omega
end Go.Proofs.Ytdopeneehminaaa.SteerLenSteerBounds
