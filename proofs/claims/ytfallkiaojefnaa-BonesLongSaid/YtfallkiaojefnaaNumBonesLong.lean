/- Numbers of fixed point, over what the print wrote of a law: what fix.Clamp, Add, Sub, Root, bits.Div64, fix.MulDiv, vec.Len and vec.Unit come to. Under the conditions that stand at each. -/
import Derived.Test.YtfallkiaojefnaaPBonesLongx
import Derived.Laws.Bits64b
import Derived.Laws.MathBits
namespace Go.Proofs.Ytfallkiaojefnaa.NumBonesLong
open Go.RowKit Go.Proofs.YtfallkiaojefnaaW.PrintWords Go.Proofs.YtfallkiaojefnaaW.PrintLast Go.Proofs.YtfallkiaojefnaaW.PrintMore Go.Proofs.Ytfallkiaojefnaa.Ext Go.Proofs.Ytfallkiaojefnaa.PBonesLong
set_option linter.unusedVariables false

theorem wrap_in {x : Int} (h0 : -9223372036854775808 ≤ x) (h1 : x ≤ 9223372036854775807) : wrap64 x = x := by
  unfold wrap64; omega
theorem uwrap_in {x : Int} (h0 : 0 ≤ x) (h1 : x < 18446744073709551616) : IntKind.u64.wrap x = x := by
  rw [IntKind.wrap_u64]; omega
theorem ev_some {α : Type} {g : Nat → Option α} {r : α} (h : ∀ k, g k = some r) : Ev g r := ⟨0, fun k _ => h k⟩
theorem ev_uniq {α : Type} {g : Nat → Option α} {r s : α} (h : Ev g r) (h' : Ev g s) : r = s := by
  obtain ⟨a, h⟩ := h
  obtain ⟨b, h'⟩ := h'
  have h1 := h (max a b) (by omega)
  rw [h' (max a b) (by omega)] at h1
  exact (Option.some.inj h1).symm

def clampV (a : Int) : Int := if a < -1099511627776 then -1099511627776 else if 1099511627776 < a then 1099511627776 else a
theorem clampV_le (a : Int) : -1099511627776 ≤ clampV a ∧ clampV a ≤ 1099511627776 := by unfold clampV; split <;> (try split) <;> omega
theorem clampV_id {a : Int} (h0 : -1099511627776 ≤ a) (h1 : a ≤ 1099511627776) : clampV a = a := by unfold clampV; rw [if_neg (by omega), if_neg (by omega)]
theorem clampV_clampV (a : Int) : clampV (clampV a) = clampV a := clampV_id (clampV_le a).1 (clampV_le a).2
theorem clamp_eq (a : Int) : fix_Clamp.f a = some (clampV a) := by
  unfold fix_Clamp.f clampV mn mx
  repeat' split
  all_goals first | rfl | (exfalso; omega) | (congr 1; omega)
def addV (a b : Int) : Int := clampV (clampV a + clampV b)
def subV (a b : Int) : Int := clampV (clampV a - clampV b)
theorem add_eq (a b : Int) : fix_Add.f a b = some (addV a b) := by
  have h1 := clampV_le a
  have h2 := clampV_le b
  unfold fix_Add.f addV
  simp only [clamp_eq, Option.bind_some]
  rw [wrap_in (by omega) (by omega)]
/-! ### products of 128 bits, sums with carry, magnitudes -/
theorem mul_eq (a b : Int) (h0 : 0 ≤ a) (h1 : a < 18446744073709551616) (h2 : 0 ≤ b) (h3 : b < 18446744073709551616) : bits_Mul64.f a b = some (a * b / 18446744073709551616, a * b % 18446744073709551616) := by
  unfold bits_Mul64.f
  rw [if_pos ⟨⟨h0, by omega⟩, h2, by omega⟩]
theorem add64lo_eq (x y c : Int) (hx : 0 ≤ x) (hy : 0 ≤ y) (hc : 0 ≤ c) : add64lo x y c = (x + y + c) % 18446744073709551616 := by
  unfold add64lo; omega
theorem add64hi_eq (x y c : Int) (hx : 0 ≤ x) (hy : 0 ≤ y) (hc : 0 ≤ c) : add64hi x y c = (x + y + c) / 18446744073709551616 := by
  unfold add64hi; omega
def absV (a : Int) : Int := if a < 0 then -a else a
theorem absV_nn (a : Int) : 0 ≤ absV a := by unfold absV; split <;> omega
theorem absV_le {a b : Int} (h0 : -b ≤ a) (h1 : a ≤ b) : absV a ≤ b := by unfold absV; split <;> omega
theorem absV_sq (a : Int) : absV a * absV a = a * a := by unfold absV; split <;> simp [Int.neg_mul_neg]
theorem vmag_eq (a : Int) (h0 : -4611686018427387904 ≤ a) (h1 : a ≤ 4611686018427387904) : vec_mag.f a = some (absV a) := by
  unfold vec_mag.f absV mx
  rw [wrap_in (by omega) (by omega)]
  split <;> split <;> first | (rw [uwrap_in (by omega) (by omega)]) | skip
  all_goals first | rfl | (exfalso; omega) | (congr 1; omega)

/-! ### the root -/
theorem or_bit (o n : Nat) (h : o % 2 ^ (n + 1) = 0) : o ||| 2 ^ n = o + 2 ^ n := by
  obtain ⟨c, rfl⟩ : ∃ c, o = 2 ^ (n + 1) * c := ⟨o / 2 ^ (n + 1), by have := Nat.div_add_mod o (2 ^ (n + 1)); omega⟩
  exact (Nat.two_pow_add_eq_or_of_lt (Nat.pow_lt_pow_right (by omega) (by omega)) c).symm

theorem root_loop (hi lo : Int) (hl0 : 0 ≤ lo) (hl1 : lo < 18446744073709551616) (n : Nat) : ∀ o : Nat, n ≤ 64 → o % 2 ^ n = 0 → o + 2 ^ n ≤ 18446744073709551616 →
    (o : Int) * o ≤ hi * 18446744073709551616 + lo → hi * 18446744073709551616 + lo < ((o : Int) + (2 ^ n : Nat)) * ((o : Int) + (2 ^ n : Nat)) →
    ∃ r : Int, (0 ≤ r ∧ r < 18446744073709551616 ∧ r * r ≤ hi * 18446744073709551616 + lo ∧ hi * 18446744073709551616 + lo < (r + 1) * (r + 1)) ∧
      Ev (fun k => fix_Root.l0 k hi lo o (((if n = 0 then 0 else 2 ^ (n - 1) : Nat)) : Int)) r := by
  induction n with
  | zero =>
    intro o _ _ h1 h2 h3
    refine ⟨o, ⟨by omega, by simp at h1; omega, h2, by simpa using h3⟩, Ev.step (f := fun _ => some (o : Int)) (fun k => ?_) (Ev.now _)⟩
    simp only [fix_Root.l0]
    rw [if_neg (by simp)]
  | succ n ih =>
    intro o hn hm h1 h2 h3
    have hp : 0 < 2 ^ n := Nat.two_pow_pos n
    have hp2 : 2 ^ (n + 1) = 2 * 2 ^ n := by rw [Nat.pow_succ]; omega
    have hlt : 2 ^ n < 18446744073709551616 := by omega
    have hor : Go.bits .or .u64 (o : Int) ((2 ^ n : Nat) : Int) = ((o + 2 ^ n : Nat) : Int) := by
      rw [bits_or_u64_nat o (2 ^ n) (by omega) hlt, or_bit o n hm]
    have hhalf : ((2 ^ n : Nat) : Int) / 2 = (((if n = 0 then 0 else 2 ^ (n - 1) : Nat)) : Int) := by
      cases n with
      | zero => simp
      | succ m => simp only [Nat.succ_ne_zero, if_false, Nat.add_sub_cancel, Nat.pow_succ]; omega
    have hmod : o % 2 ^ n = 0 := by
      have : 2 ^ n ∣ 2 ^ (n + 1) := ⟨2, by omega⟩
      exact Nat.mod_eq_zero_of_dvd (Nat.dvd_trans this (Nat.dvd_of_mod_eq_zero hm))
    have hround : ∀ k, fix_Root.l0 (k + 1) hi lo o ((2 ^ n : Nat) : Int) = if ((o + 2 ^ n : Nat) : Int) * ((o + 2 ^ n : Nat) : Int) ≤ hi * 18446744073709551616 + lo then fix_Root.l0 k hi lo ((o + 2 ^ n : Nat) : Int) (((if n = 0 then 0 else 2 ^ (n - 1) : Nat)) : Int) else fix_Root.l0 k hi lo o (((if n = 0 then 0 else 2 ^ (n - 1) : Nat)) : Int) := by
      intro k
      simp only [fix_Root.l0]
      rw [if_pos (by omega), hor, hhalf, mul_eq _ _ (by omega) (by omega) (by omega) (by omega)]
      simp only [Option.bind_some]
      generalize ((o + 2 ^ n : Nat) : Int) * ((o + 2 ^ n : Nat) : Int) = s
      by_cases hc : s ≤ hi * 18446744073709551616 + lo
      · rw [if_pos hc]
        by_cases c1 : s / 18446744073709551616 < hi
        · rw [if_pos c1]
        · rw [if_neg c1, if_pos (by omega), if_pos (by omega)]
      · rw [if_neg hc, if_neg (by omega)]
        by_cases c1 : s / 18446744073709551616 = hi
        · rw [if_pos c1, if_neg (by omega)]
        · rw [if_neg c1]
    simp only [Nat.succ_ne_zero, if_false, Nat.add_sub_cancel]
    by_cases hc : ((o + 2 ^ n : Nat) : Int) * ((o + 2 ^ n : Nat) : Int) ≤ hi * 18446744073709551616 + lo
    · obtain ⟨r, hr, he⟩ := ih (o + 2 ^ n) (by omega) (by rw [Nat.add_mod_right]; exact hmod) (by omega) hc (by
        have e : ((o + 2 ^ n : Nat) : Int) + ((2 ^ n : Nat) : Int) = (o : Int) + ((2 ^ (n + 1) : Nat) : Int) := by omega
        rw [e]; exact h3)
      exact ⟨r, hr, Ev.step (fun k => (hround k).trans (if_pos hc)) he⟩
    · obtain ⟨r, hr, he⟩ := ih o (by omega) hmod (by omega) h2 (by
        have e : ((o + 2 ^ n : Nat) : Int) = (o : Int) + ((2 ^ n : Nat) : Int) := by omega
        rw [e] at hc
        omega)
      exact ⟨r, hr, Ev.step (fun k => (hround k).trans (if_neg hc)) he⟩

theorem root_ev (hi lo : Int) (hh0 : 0 ≤ hi) (hh1 : hi < 18446744073709551616) (hl0 : 0 ≤ lo) (hl1 : lo < 18446744073709551616) :
    ∃ r : Int, (0 ≤ r ∧ r < 18446744073709551616 ∧ r * r ≤ hi * 18446744073709551616 + lo ∧ hi * 18446744073709551616 + lo < (r + 1) * (r + 1)) ∧ Ev (fun k => fix_Root.f k hi lo) r := by
  obtain ⟨r, hr, he⟩ := root_loop hi lo hl0 hl1 64 0 (by omega) (by simp) (by decide) (by simp; omega) (by simp; omega)
  exact ⟨r, hr, he⟩

theorem sq_lt {a b : Int} (ha : 0 ≤ b) (h : a * a < b * b) : a < b := by
  rcases Int.lt_or_le a b with h1 | h1
  · exact h1
  · have := Int.mul_le_mul h1 h1 ha (by omega)
    omega
theorem sq_le {a b : Int} (hb : 0 ≤ b) (h : a * a ≤ b * b) : a ≤ b := by
  rcases Int.lt_or_le b a with h1 | h1
  · obtain ⟨d, rfl⟩ : ∃ d, a = b + d := ⟨a - b, by omega⟩
    have h2 : 0 ≤ b * d := Int.mul_nonneg hb (by omega)
    have h3 : 0 < d * d := Int.mul_pos (by omega) (by omega)
    have e : (b + d) * (b + d) = b * b + 2 * (b * d) + d * d := by grind
    omega
  · exact h1

/-! ### lengths and directions -/
theorem length_ev (x y : Int) (hx0 : -4611686018427387904 ≤ x) (hx1 : x ≤ 4611686018427387904) (hy0 : -4611686018427387904 ≤ y) (hy1 : y ≤ 4611686018427387904) :
    ∃ r : Int, (0 ≤ r ∧ r * r ≤ x * x + y * y ∧ x * x + y * y < (r + 1) * (r + 1)) ∧ Ev (fun k => vec_length.f k x y) r := by
  have ax := absV_nn x
  have ay := absV_nn y
  have bx := absV_le hx0 hx1
  have b_y := absV_le hy0 hy1
  have sx : absV x * absV x ≤ 4611686018427387904 * 4611686018427387904 := Int.mul_le_mul bx bx ax (by omega)
  have sy : absV y * absV y ≤ 4611686018427387904 * 4611686018427387904 := Int.mul_le_mul b_y b_y ay (by omega)
  have nx : 0 ≤ absV x * absV x := Int.mul_nonneg ax ax
  have ny : 0 ≤ absV y * absV y := Int.mul_nonneg ay ay
  rw [← absV_sq x, ← absV_sq y]
  have hf : ∀ k, vec_length.f k x y = (fix_Root.f k (((absV x * absV x + absV y * absV y)) / 18446744073709551616) ((absV x * absV x + absV y * absV y) % 18446744073709551616)).bind fun t => some (wrap64 t) := by
    intro k
    unfold vec_length.f
    simp only [vmag_eq x hx0 hx1, vmag_eq y hy0 hy1, Option.bind_some, mul_eq (absV x) (absV x) ax (by omega) ax (by omega), mul_eq (absV y) (absV y) ay (by omega) ay (by omega)]
    generalize absV x * absV x = p at *
    generalize absV y * absV y = q at *
    rw [add64hi_eq _ _ _ (by omega) (by omega) (by omega), add64lo_eq _ _ _ (by omega) (by omega) (by omega), if_pos (by omega), add64lo_eq _ _ _ (by omega) (by omega) (by omega)]
    rw [show (p / 18446744073709551616 + q / 18446744073709551616 + (p % 18446744073709551616 + q % 18446744073709551616 + 0) / 18446744073709551616) % 18446744073709551616 = (p + q) / 18446744073709551616 by omega,
      show (p % 18446744073709551616 + q % 18446744073709551616 + 0) % 18446744073709551616 = (p + q) % 18446744073709551616 by omega]
  generalize absV x * absV x = p at *
  generalize absV y * absV y = q at *
  obtain ⟨r, ⟨h0, h1, h2, h3⟩, he⟩ := root_ev ((p + q) / 18446744073709551616) ((p + q) % 18446744073709551616) (by omega) (by omega) (by omega) (by omega)
  have e : (p + q) / 18446744073709551616 * 18446744073709551616 + (p + q) % 18446744073709551616 = p + q := by omega
  rw [e] at h2 h3
  have hr : r < 9223372036854775808 := sq_lt (by omega) (by omega)
  refine ⟨r, ⟨h0, h2, h3⟩, Ev.congr hf (Ev.bind he ?_)⟩
  rw [wrap_in (by omega) (by omega)]
  exact Ev.now r

/-- The value from some number of rounds on. -/
noncomputable def val {α : Type} [Inhabited α] (g : Nat → Option α) : α := Classical.epsilon fun r => Ev g r
theorem val_ev {α : Type} [Inhabited α] {g : Nat → Option α} (h : ∃ r, Ev g r) : Ev g (val g) := Classical.epsilon_spec h

theorem clampV_range (a : Int) : -4611686018427387904 ≤ clampV a ∧ clampV a ≤ 4611686018427387904 := by have := clampV_le a; omega

theorem vlen_ev (x y : Int) : ∃ r : Int, (0 ≤ r ∧ r * r ≤ clampV x * clampV x + clampV y * clampV y ∧ clampV x * clampV x + clampV y * clampV y < (r + 1) * (r + 1)) ∧ Ev (fun k => vec_Len.f k x y) (clampV r) := by
  obtain ⟨r, hr, he⟩ := length_ev (clampV x) (clampV y) (clampV_range x).1 (clampV_range x).2 (clampV_range y).1 (clampV_range y).2
  refine ⟨r, hr, ?_⟩
  unfold vec_Len.f
  simp only [clamp_eq, Option.bind_some]
  exact Ev.bind he (Ev.now _)

def throughV (x l : Int) : Int := (2 * x * 65536 + l) / (2 * l)
/-! ### division of 128 bits -/
theorem digit_no (v1 v0 u u0 q r : Int) (hv1 : 0 < v1) (hv0 : 0 ≤ v0) (hu : u = q * v1 + r) (h : q * v0 ≤ 4294967296 * r + u0) (hq : (u * 4294967296 + u0) / (v1 * 4294967296 + v0) ≤ q) : q = (u * 4294967296 + u0) / (v1 * 4294967296 + v0) := by
  have hv : 0 < v1 * 4294967296 + v0 := by omega
  have h1 : q ≤ (u * 4294967296 + u0) / (v1 * 4294967296 + v0) := by
    refine Int.le_ediv_of_mul_le hv ?_
    have e : q * (v1 * 4294967296 + v0) = q * v1 * 4294967296 + q * v0 := by grind
    rw [e]; omega
  omega
theorem digit_yes (v1 v0 u u0 q r : Int) (hv1 : 0 < v1) (hv0 : 0 ≤ v0) (hu : u = q * v1 + r) (hu1 : u < v1 * 4294967296 + v0) (h0 : 0 ≤ u0) (h1 : u0 < 4294967296) (h : 4294967296 ≤ q ∨ 4294967296 * r + u0 < q * v0) : (u * 4294967296 + u0) / (v1 * 4294967296 + v0) ≤ q - 1 := by
  have hv : 0 < v1 * 4294967296 + v0 := by omega
  have h1 : (u * 4294967296 + u0) / (v1 * 4294967296 + v0) < q := by
    rcases h with h | h
    · have : (u * 4294967296 + u0) / (v1 * 4294967296 + v0) < 4294967296 := Int.ediv_lt_of_lt_mul hv (by omega)
      omega
    · refine Int.ediv_lt_of_lt_mul hv ?_
      have e : q * (v1 * 4294967296 + v0) = q * v1 * 4294967296 + q * v0 := by grind
      rw [e]; omega
  omega
theorem digit_break (v1 v0 u u0 q r : Int) (hv1 : 0 < v1) (hv0 : 0 ≤ v0) (hv2 : v0 < 4294967296) (hu : u = q * v1 + r) (hu1 : u < v1 * 4294967296 + v0) (hq0 : 0 ≤ q) (h0 : 0 ≤ u0) (hr : 4294967296 ≤ r) (hq : (u * 4294967296 + u0) / (v1 * 4294967296 + v0) ≤ q) : q = (u * 4294967296 + u0) / (v1 * 4294967296 + v0) := by
  have hb : q < 4294967296 := by
    rcases Int.lt_or_le q 4294967296 with h | h
    · exact h
    · have := Int.mul_le_mul_of_nonneg_right h (Int.le_of_lt hv1)
      omega
  refine digit_no v1 v0 u u0 q r hv1 hv0 hu ?_ hq
  have : q * v0 ≤ 4294967296 * 4294967296 := Int.mul_le_mul (by omega) (by omega) hv0 (by omega)
  omega

section
variable (v1 v0 : Int) (hv1 : 2147483648 ≤ v1) (hv2 : v1 < 4294967296) (hv0 : 0 ≤ v0) (hv3 : v0 < 4294967296)
include hv1 hv2 hv0 hv3

theorem q_range {u q r : Int} (hu : u = q * v1 + r) (hu1 : u < v1 * 4294967296 + v0) (hq : 0 ≤ q) (hr : 0 ≤ r) : q ≤ 8589934592 := by
  rcases Int.le_total q 8589934592 with h | h
  · exact h
  · have h1 : q * 2147483648 ≤ q * v1 := Int.mul_le_mul_of_nonneg_left hv1 hq
    omega

theorem low_loop (sh u un1 u0 d1 d2 : Int) (hsh : 0 ≤ sh) (hu0 : 0 ≤ u) (hu1 : u < v1 * 4294967296 + v0) (h0 : 0 ≤ u0) (h1 : u0 < 4294967296) (n : Nat) : ∀ q r : Int, u = q * v1 + r → 0 ≤ r → r < 4294967296 → 4294967296 - r ≤ n → 0 ≤ q → (u * 4294967296 + u0) / (v1 * 4294967296 + v0) ≤ q →
    Ev (fun k => bits_Div64.l1 k (v1 * 4294967296 + v0) sh v1 v0 u0 d1 r u q) (IntKind.u64.wrap (IntKind.u64.wrap (d1 * 4294967296) + (u * 4294967296 + u0) / (v1 * 4294967296 + v0)), shr .u64 (IntKind.u64.wrap (IntKind.u64.wrap (IntKind.u64.wrap (u * 4294967296) + u0) - IntKind.u64.wrap ((u * 4294967296 + u0) / (v1 * 4294967296 + v0) * (v1 * 4294967296 + v0)))) sh) := by
  induction n with
  | zero => intro q r _ h2 h3 h4; omega
  | succ n ih =>
    intro q r hu hr0 hr1 hn hq hQ
    have hqr := q_range v1 v0 hv1 hv2 hv0 hv3 hu hu1 hq hr0
    have w1 : IntKind.u64.wrap (4294967296 * r) = 4294967296 * r := uwrap_in (by omega) (by omega)
    have w2 : IntKind.u64.wrap (4294967296 * r + u0) = 4294967296 * r + u0 := uwrap_in (by omega) (by omega)
    have w3 : IntKind.u64.wrap (r + v1) = r + v1 := uwrap_in (by omega) (by omega)
    by_cases ht : 4294967296 ≤ q ∨ 4294967296 * r + u0 < q * v0
    · have hy := digit_yes v1 v0 u u0 q r (by omega) hv0 hu hu1 h0 h1 ht
      have hQ0 : 0 ≤ (u * 4294967296 + u0) / (v1 * 4294967296 + v0) := Int.ediv_nonneg (by omega) (by omega)
      have w4 : IntKind.u64.wrap (q - 1) = q - 1 := uwrap_in (by omega) (by omega)
      have hl : ∀ k, bits_Div64.l1 (k + 1) (v1 * 4294967296 + v0) sh v1 v0 u0 d1 r u q = bits_Div64.j4 k (v1 * 4294967296 + v0) sh v1 v0 u0 d1 r u q true := by
        intro k
        simp only [bits_Div64.l1]
        by_cases hb : q ≥ 4294967296
        · rw [if_pos hb]
        · rw [if_neg hb, w1, w2, uwrap_in (x := q * v0) (Int.mul_nonneg hq hv0) (by
            have : q * v0 ≤ 4294967295 * 4294967295 := Int.mul_le_mul (by omega) (by omega) hv0 (by omega)
            omega), show decide (q * v0 > 4294967296 * r + u0) = true from decide_eq_true (by rcases ht with h | h <;> omega)]
      have hu' : u = (q - 1) * v1 + (r + v1) := by rw [hu, Int.sub_mul]; omega
      by_cases hb : 4294967296 ≤ r + v1
      · have hf := digit_break v1 v0 u u0 (q - 1) (r + v1) (by omega) hv0 hv3 hu' hu1 (by omega) h0 hb hy
        refine Ev.step hl (Ev.step (f := fun _ => some _) (fun k => ?_) (Ev.now _))
        simp only [bits_Div64.j4]
        rw [if_pos trivial, w3, if_pos hb, if_pos hsh, w4, ← hf]
      · refine Ev.step hl (Ev.step (fun k => ?_) (ih (q - 1) (r + v1) hu' (by omega) (by omega) (by omega) (by omega) hy))
        simp only [bits_Div64.j4]
        rw [if_pos trivial, w3, if_neg (by omega), w4]
    · have hn1 : ¬ 4294967296 ≤ q := fun h => ht (.inl h)
      have hn2 : q * v0 ≤ 4294967296 * r + u0 := by omega
      have hf := digit_no v1 v0 u u0 q r (by omega) hv0 hu hn2 hQ
      refine Ev.step (f := fun k => bits_Div64.j4 k (v1 * 4294967296 + v0) sh v1 v0 u0 d1 r u q false) (fun k => ?_) (Ev.step (f := fun _ => some _) (fun k => ?_) (Ev.now _))
      · simp only [bits_Div64.l1]
        rw [if_neg (by omega), w1, w2, uwrap_in (x := q * v0) (Int.mul_nonneg hq hv0) (by
            have : q * v0 ≤ 4294967295 * 4294967295 := Int.mul_le_mul (by omega) (by omega) hv0 (by omega)
            omega), show decide (q * v0 > 4294967296 * r + u0) = false from decide_eq_false (by omega)]
      · simp only [bits_Div64.j4]
        rw [if_neg (by simp), if_pos hsh, ← hf]

theorem high_loop (sh u u0 un0 : Int) (R : Int × Int) (hu0 : 0 ≤ u) (hu1 : u < v1 * 4294967296 + v0) (h0 : 0 ≤ u0) (h1 : u0 < 4294967296)
    (hR : Ev (fun k => bits_Div64.j2 k (v1 * 4294967296 + v0) sh v1 v0 u u0 un0 ((u * 4294967296 + u0) / (v1 * 4294967296 + v0))) R) (n : Nat) : ∀ q r : Int, u = q * v1 + r → 0 ≤ r → r < 4294967296 → 4294967296 - r ≤ n → 0 ≤ q → (u * 4294967296 + u0) / (v1 * 4294967296 + v0) ≤ q →
    Ev (fun k => bits_Div64.l0 k (v1 * 4294967296 + v0) sh v1 v0 u u0 un0 q r) R := by
  induction n with
  | zero => intro q r _ h2 h3 h4; omega
  | succ n ih =>
    intro q r hu hr0 hr1 hn hq hQ
    have hqr := q_range v1 v0 hv1 hv2 hv0 hv3 hu hu1 hq hr0
    have w1 : IntKind.u64.wrap (4294967296 * r) = 4294967296 * r := uwrap_in (by omega) (by omega)
    have w2 : IntKind.u64.wrap (4294967296 * r + u0) = 4294967296 * r + u0 := uwrap_in (by omega) (by omega)
    have w3 : IntKind.u64.wrap (r + v1) = r + v1 := uwrap_in (by omega) (by omega)
    by_cases ht : 4294967296 ≤ q ∨ 4294967296 * r + u0 < q * v0
    · have hy := digit_yes v1 v0 u u0 q r (by omega) hv0 hu hu1 h0 h1 ht
      have hQ0 : 0 ≤ (u * 4294967296 + u0) / (v1 * 4294967296 + v0) := Int.ediv_nonneg (by omega) (by omega)
      have w4 : IntKind.u64.wrap (q - 1) = q - 1 := uwrap_in (by omega) (by omega)
      have hl : ∀ k, bits_Div64.l0 (k + 1) (v1 * 4294967296 + v0) sh v1 v0 u u0 un0 q r = bits_Div64.j1 k (v1 * 4294967296 + v0) sh v1 v0 u u0 un0 q r true := by
        intro k
        simp only [bits_Div64.l0]
        by_cases hb : q ≥ 4294967296
        · rw [if_pos hb]
        · rw [if_neg hb, w1, w2, uwrap_in (x := q * v0) (Int.mul_nonneg hq hv0) (by
            have : q * v0 ≤ 4294967295 * 4294967295 := Int.mul_le_mul (by omega) (by omega) hv0 (by omega)
            omega), show decide (q * v0 > 4294967296 * r + u0) = true from decide_eq_true (by rcases ht with h | h <;> omega)]
      have hu' : u = (q - 1) * v1 + (r + v1) := by rw [hu, Int.sub_mul]; omega
      by_cases hb : 4294967296 ≤ r + v1
      · have hf := digit_break v1 v0 u u0 (q - 1) (r + v1) (by omega) hv0 hv3 hu' hu1 (by omega) h0 hb hy
        refine Ev.step hl (Ev.step (fun k => ?_) hR)
        simp only [bits_Div64.j1]
        rw [if_pos trivial, w3, if_pos hb, w4, hf]
      · refine Ev.step hl (Ev.step (fun k => ?_) (ih (q - 1) (r + v1) hu' (by omega) (by omega) (by omega) (by omega) hy))
        simp only [bits_Div64.j1]
        rw [if_pos trivial, w3, if_neg (by omega), w4]
    · have hn2 : q * v0 ≤ 4294967296 * r + u0 := by omega
      have hf := digit_no v1 v0 u u0 q r (by omega) hv0 hu hn2 hQ
      refine Ev.step (f := fun k => bits_Div64.j1 k (v1 * 4294967296 + v0) sh v1 v0 u u0 un0 q r false) (fun k => ?_) (Ev.step (fun k => ?_) hR)
      · simp only [bits_Div64.l0]
        rw [if_neg (by omega), w1, w2, uwrap_in (x := q * v0) (Int.mul_nonneg hq hv0) (by
            have : q * v0 ≤ 4294967295 * 4294967295 := Int.mul_le_mul (by omega) (by omega) hv0 (by omega)
            omega), show decide (q * v0 > 4294967296 * r + u0) = false from decide_eq_false (by omega)]
      · simp only [bits_Div64.j1]
        rw [if_neg (by simp), hf]
end

theorem bitLenAux_spec (f : Nat) : ∀ x, x < 2 ^ f → Lib.bitLenAux f x ≤ f ∧ x < 2 ^ Lib.bitLenAux f x ∧ (0 < x → 1 ≤ Lib.bitLenAux f x ∧ 2 ^ (Lib.bitLenAux f x - 1) ≤ x) := by
  induction f with
  | zero => intro x hx; simp [Lib.bitLenAux] at *; omega
  | succ f ih =>
    intro x hx
    rw [Nat.pow_succ] at hx
    obtain ⟨h1, h2, h3⟩ := ih (x / 2) (by omega)
    unfold Lib.bitLenAux
    by_cases h : x = 0
    · rw [if_pos h]; subst h; simp
    · rw [if_neg h]
      refine ⟨by omega, ?_, fun _ => ⟨by omega, ?_⟩⟩
      · rw [Nat.pow_add]; omega
      · rw [Nat.add_sub_cancel_left]
        by_cases h4 : x / 2 = 0
        · have h5 : Lib.bitLenAux f (x / 2) = 0 := by
            cases f with
            | zero => rfl
            | succ f => unfold Lib.bitLenAux; rw [if_pos h4]
          rw [h5]; simp; omega
        · obtain ⟨h5, h6⟩ := h3 (by omega)
          obtain ⟨m, hm⟩ : ∃ m, Lib.bitLenAux f (x / 2) = m + 1 := ⟨Lib.bitLenAux f (x / 2) - 1, by omega⟩
          rw [hm] at h6 ⊢
          rw [Nat.pow_succ]
          simp at h6
          omega

theorem norm_ex (y : Int) (h0 : 0 < y) (h1 : y < 18446744073709551616) : ∃ s : Nat, s ≤ 63 ∧ 64 - (Lib.bitLen y.toNat : Int) = s ∧ 9223372036854775808 ≤ y * 2 ^ s ∧ y * 2 ^ s < 18446744073709551616 := by
  obtain ⟨n, rfl⟩ := Int.eq_ofNat_of_zero_le (Int.le_of_lt h0)
  obtain ⟨g1, g2, g3⟩ := bitLenAux_spec 64 n (by omega)
  obtain ⟨g4, g5⟩ := g3 (by omega)
  unfold Lib.bitLen
  rw [Int.toNat_natCast]
  generalize Lib.bitLenAux 64 n = b at *
  refine ⟨64 - b, by omega, by omega, ?_, ?_⟩
  · have : 2 ^ (b - 1) * 2 ^ (64 - b) ≤ n * 2 ^ (64 - b) := Nat.mul_le_mul_right _ g5
    rw [← Nat.pow_add, show b - 1 + (64 - b) = 63 by omega] at this
    have h2 : ((n * 2 ^ (64 - b) : Nat) : Int) = (n : Int) * 2 ^ (64 - b) := by simp
    rw [← h2]; omega
  · have : n * 2 ^ (64 - b) < 2 ^ b * 2 ^ (64 - b) := Nat.mul_lt_mul_of_pos_right g2 (Nat.two_pow_pos _)
    rw [← Nat.pow_add, show b + (64 - b) = 64 by omega] at this
    have h2 : ((n * 2 ^ (64 - b) : Nat) : Int) = (n : Int) * 2 ^ (64 - b) := by simp
    rw [← h2]; omega

theorem or_parts (a b s : Nat) (h : b < 2 ^ s) (h1 : a * 2 ^ s < 18446744073709551616) (h2 : b < 18446744073709551616) : Go.bits .or .u64 ((a : Int) * 2 ^ s) (b : Int) = (a : Int) * 2 ^ s + b := by
  have e : (a : Int) * 2 ^ s = ((a * 2 ^ s : Nat) : Int) := by simp
  rw [e, bits_or_u64_nat _ _ h1 h2, Nat.mul_comm a, ← Nat.two_pow_add_eq_or_of_lt h a]
  simp

theorem div_ev (hi lo y : Int) (hh0 : 0 ≤ hi) (hh1 : hi < y) (hy : y < 18446744073709551616) (hl0 : 0 ≤ lo) (hl1 : lo < 18446744073709551616) :
    Ev (fun k => bits_Div64.f k hi lo y) ((hi * 18446744073709551616 + lo) / y, (hi * 18446744073709551616 + lo) % y) := by
  by_cases hz : hi = 0
  · subst hz
    refine ev_some fun k => ?_
    unfold bits_Div64.f
    rw [if_neg (by omega), if_neg (by omega), if_pos rfl, Int.tdiv_eq_ediv_of_nonneg hl0, Int.tmod_eq_emod_of_nonneg hl0, uwrap_in (Int.ediv_nonneg hl0 (by omega)) (by
      have := Int.ediv_le_self y hl0
      omega)]
    simp
  · obtain ⟨s, hs, hsb, hv1, hv2⟩ := norm_ex y (by omega) hy
    have hp : (0 : Int) < 2 ^ s := Int.pow_pos (by decide)
    have hpn : 0 < 2 ^ s := Nat.two_pow_pos s
    have hple : (2 : Int) ^ s ≤ 9223372036854775808 := by
      have := Nat.pow_le_pow_right (n := 2) (by omega) hs
      have e : ((2 ^ s : Nat) : Int) = (2 : Int) ^ s := by simp
      rw [← e]; omega
    have hsplit : (2 : Int) ^ s * 2 ^ (64 - s) = 18446744073709551616 := by
      rw [← Int.pow_add, show s + (64 - s) = 64 by omega]; decide
    have hq : (0 : Int) < 2 ^ (64 - s) := Int.pow_pos (by decide)
    -- the parts of the divisor and of the dividend
    generalize hP : (2 : Int) ^ s = p at *
    generalize hQ : (2 : Int) ^ (64 - s) = c at *
    have hlo1 : 0 ≤ lo / c := Int.ediv_nonneg hl0 (Int.le_of_lt hq)
    have hlo2 : lo / c < p := Int.ediv_lt_of_lt_mul hq (by omega)
    have hhp : hi * p + p ≤ y * p := by
      have := Int.mul_le_mul_of_nonneg_right (show hi + 1 ≤ y by omega) (Int.le_of_lt hp)
      rw [Int.add_mul, Int.one_mul] at this
      exact this
    have hhp0 : 0 ≤ hi * p := Int.mul_nonneg hh0 (Int.le_of_lt hp)
    have hlp0 : 0 ≤ lo * p := Int.mul_nonneg hl0 (Int.le_of_lt hp)
    have hlop : lo * p = lo / c * 18446744073709551616 + lo * p % 18446744073709551616 := by
      have h1 : lo * p / 18446744073709551616 = lo / c := by
        rw [← hsplit, Int.mul_comm p c, Int.mul_ediv_mul_of_pos_left _ _ hp]
      omega
    -- what the code calls by these names
    have e1 : shl .u64 y (IntKind.u64.wrap (s : Int)) = y * p := by
      unfold shl
      rw [uwrap_in (x := (s : Int)) (by omega) (by omega), Int.toNat_natCast, Nat.min_eq_left (by show s ≤ 64; omega), hP, uwrap_in (by omega) (by omega)]
    have e2 : shl .u64 hi (IntKind.u64.wrap (s : Int)) = hi * p := by
      unfold shl
      rw [uwrap_in (x := (s : Int)) (by omega) (by omega), Int.toNat_natCast, Nat.min_eq_left (by show s ≤ 64; omega), hP, uwrap_in (by omega) (by omega)]
    have e3 : shl .u64 lo (IntKind.u64.wrap (s : Int)) = lo * p % 18446744073709551616 := by
      unfold shl
      rw [uwrap_in (x := (s : Int)) (by omega) (by omega), Int.toNat_natCast, Nat.min_eq_left (by show s ≤ 64; omega), hP, IntKind.wrap_u64]
    have e4 : shr .u64 lo (IntKind.u64.wrap (64 - IntKind.u64.wrap (s : Int))) = lo / c := by
      unfold shr
      rw [uwrap_in (x := (s : Int)) (by omega) (by omega), uwrap_in (by omega) (by omega), show ((64 : Int) - (s : Int)).toNat = 64 - s by omega, Nat.min_eq_left (by show 64 - s ≤ 64; omega), hQ]
    have e5 : Go.bits .or .u64 (hi * p) (lo / c) = hi * p + lo / c := by
      obtain ⟨a, rfl⟩ := Int.eq_ofNat_of_zero_le hh0
      obtain ⟨b, hb⟩ := Int.eq_ofNat_of_zero_le hlo1
      rw [hb, ← hP]
      have e : ((a * 2 ^ s : Nat) : Int) = (a : Int) * 2 ^ s := by simp
      have e' : ((2 ^ s : Nat) : Int) = (2 : Int) ^ s := by simp
      refine or_parts a b s ?_ ?_ ?_
      · omega
      · rw [← hP] at hhp hv2; omega
      · omega
    generalize hU : hi * p + lo / c = u at *
    generalize hV : y * p = v at *
    generalize hW : lo * p % 18446744073709551616 = z at *
    have hz0 : 0 ≤ z ∧ z < 18446744073709551616 := by omega
    have hu0 : 0 ≤ u := by omega
    have hu1 : u < v := by omega
    have m1 : Go.bits .and .u64 v 4294967295 = v % 4294967296 := and_low32 v (by omega) hv2
    have m2 : Go.bits .and .u64 z 4294967295 = z % 4294967296 := and_low32 z hz0.1 hz0.2
    have hN : (hi * 18446744073709551616 + lo) * p = u * 18446744073709551616 + z := by
      rw [Int.add_mul, hlop]
      have : hi * 18446744073709551616 * p = hi * p * 18446744073709551616 := by rw [Int.mul_assoc, Int.mul_comm 18446744073709551616 p, ← Int.mul_assoc]
      omega
    have hd1 : 2147483648 ≤ v / 4294967296 := by omega
    have hd2 : v / 4294967296 < 4294967296 := by omega
    have hvv : v / 4294967296 * 4294967296 + v % 4294967296 = v := by omega
    have first : ∀ w : Int, 0 ≤ w → w < v → ∀ x, 0 ≤ x → x < 4294967296 → (w * 4294967296 + x) / (v / 4294967296 * 4294967296 + v % 4294967296) ≤ w / (v / 4294967296) := by
      intro w hw hwv x hx0 hx1
      have a := Int.emod_add_mul_ediv w (v / 4294967296)
      have b := Int.emod_lt_of_pos w (by omega : 0 < v / 4294967296)
      have d : (w * 4294967296 + x) / (v / 4294967296 * 4294967296 + v % 4294967296) < w / (v / 4294967296) + 1 := by
        refine Int.ediv_lt_of_lt_mul (by omega) ?_
        have n1 : 0 ≤ w / (v / 4294967296) := Int.ediv_nonneg hw (by omega)
        generalize w / (v / 4294967296) = q at *
        have n2 : 0 ≤ (q + 1) * (v % 4294967296) := Int.mul_nonneg (by omega) (by omega)
        have e : (q + 1) * (v / 4294967296 * 4294967296 + v % 4294967296) = (v / 4294967296 * q + v / 4294967296) * 4294967296 + (q + 1) * (v % 4294967296) := by grind
        rw [e]; omega
      omega
    have quo : ∀ w : Int, 0 ≤ w → w < v → IntKind.u64.wrap (Int.tdiv w (v / 4294967296)) = w / (v / 4294967296) ∧ IntKind.u64.wrap (w - IntKind.u64.wrap (w / (v / 4294967296) * (v / 4294967296))) = w % (v / 4294967296) ∧
        w = w / (v / 4294967296) * (v / 4294967296) + w % (v / 4294967296) ∧ 0 ≤ w % (v / 4294967296) ∧ w % (v / 4294967296) < 4294967296 ∧ 0 ≤ w / (v / 4294967296) := by
      intro w hw hwv
      have a := Int.emod_add_mul_ediv w (v / 4294967296)
      have b := Int.emod_lt_of_pos w (by omega : 0 < v / 4294967296)
      have b' := Int.emod_nonneg w (by omega : v / 4294967296 ≠ 0)
      have n1 : 0 ≤ w / (v / 4294967296) := Int.ediv_nonneg hw (by omega)
      have n2 := Int.ediv_le_self (v / 4294967296) hw
      have n3 : 0 ≤ w / (v / 4294967296) * (v / 4294967296) := Int.mul_nonneg n1 (by omega)
      rw [Int.mul_comm] at a
      refine ⟨by rw [Int.tdiv_eq_ediv_of_nonneg hw, uwrap_in n1 (by omega)], by rw [uwrap_in n3 (by omega), uwrap_in (by omega) (by omega)]; omega, by omega, b', by omega, n1⟩
    -- the walk
    obtain ⟨q1, q2, q3, q4, q5, q6⟩ := quo u hu0 hu1
    refine Ev.congr (g := fun k => bits_Div64.f k hi lo y) (f := fun k => bits_Div64.l0 k (v / 4294967296 * 4294967296 + v % 4294967296) s (v / 4294967296) (v % 4294967296) u (z / 4294967296) (z % 4294967296) (u / (v / 4294967296)) (u % (v / 4294967296))) (fun k => ?_) ?_
    · show bits_Div64.f k hi lo y = _
      unfold bits_Div64.f
      rw [if_neg (by omega), if_neg (by omega), if_neg hz]
      unfold bits_LeadingZeros64.f
      rw [if_pos ⟨by omega, by omega⟩]
      simp only [Option.bind_some]
      rw [hsb, e1, e2, e3, e4, e5, if_pos (by rw [uwrap_in (by omega) (by omega)]; omega), if_pos (by rw [uwrap_in (x := (s : Int)) (by omega) (by omega), uwrap_in (by omega) (by omega)]; omega), if_neg (by omega), m1, m2, q1, q2, hvv, uwrap_in (x := (s : Int)) (by omega) (by omega)]
    · refine high_loop (v / 4294967296) (v % 4294967296) hd1 hd2 (by omega) (by omega) s u (z / 4294967296) (z % 4294967296) _ hu0 (by omega) (by omega) (by omega) ?_ 4294967296 _ _ q3 q4 q5 (by omega) q6 (first u hu0 hu1 _ (by omega) (by omega))
      rw [hvv]
      have a := Int.emod_add_mul_ediv (u * 4294967296 + z / 4294967296) v
      have b := Int.emod_lt_of_pos (u * 4294967296 + z / 4294967296) (by omega : 0 < v)
      have b' := Int.emod_nonneg (u * 4294967296 + z / 4294967296) (by omega : v ≠ 0)
      have hQ0 : 0 ≤ (u * 4294967296 + z / 4294967296) / v := Int.ediv_nonneg (by omega) (by omega)
      have hQ1 : (u * 4294967296 + z / 4294967296) / v < 4294967296 := Int.ediv_lt_of_lt_mul (by omega) (by omega)
      generalize (u * 4294967296 + z / 4294967296) % v = t at *
      generalize (u * 4294967296 + z / 4294967296) / v = Q1 at *
      have hun : IntKind.u64.wrap (IntKind.u64.wrap (IntKind.u64.wrap (u * 4294967296) + z / 4294967296) - IntKind.u64.wrap (Q1 * v)) = t := by
        rw [Int.mul_comm Q1 v]
        simp only [IntKind.wrap_u64]
        omega
      obtain ⟨r1, r2, r3, r4, r5, r6⟩ := quo t b' b
      have low := low_loop (v / 4294967296) (v % 4294967296) hd1 hd2 (by omega) (by omega) s t 0 (z % 4294967296) Q1 0 (by omega) b' (by omega) (by omega) (by omega) 4294967296 _ _ r3 r4 r5 (by omega) r6 (first t b' b _ (by omega) (by omega))
      rw [hvv] at low
      refine Ev.step (fun k => ?_) (?_ : Ev (fun k => bits_Div64.l1 k v s (v / 4294967296) (v % 4294967296) (z % 4294967296) Q1 (t % (v / 4294967296)) t (t / (v / 4294967296))) _)
      · simp only [bits_Div64.j2]
        rw [if_neg (by omega), hun, r1, r2]
      · have a2 := Int.emod_add_mul_ediv (t * 4294967296 + z % 4294967296) v
        have b2 := Int.emod_lt_of_pos (t * 4294967296 + z % 4294967296) (by omega : 0 < v)
        have b2' := Int.emod_nonneg (t * 4294967296 + z % 4294967296) (by omega : v ≠ 0)
        have hR0 : 0 ≤ (t * 4294967296 + z % 4294967296) / v := Int.ediv_nonneg (by omega) (by omega)
        have hR1 : (t * 4294967296 + z % 4294967296) / v < 4294967296 := Int.ediv_lt_of_lt_mul (by omega) (by omega)
        generalize (t * 4294967296 + z % 4294967296) % v = rem at *
        generalize (t * 4294967296 + z % 4294967296) / v = Q0 at *
        have hrem : IntKind.u64.wrap (IntKind.u64.wrap (IntKind.u64.wrap (t * 4294967296) + z % 4294967296) - IntKind.u64.wrap (Q0 * v)) = rem := by
          rw [Int.mul_comm Q0 v]
          simp only [IntKind.wrap_u64]
          omega
        rw [hrem, uwrap_in (x := Q1 * 4294967296) (by omega) (by omega), uwrap_in (x := Q1 * 4294967296 + Q0) (by omega) (by omega)] at low
        -- what the digits make
        have hall : (hi * 18446744073709551616 + lo) * p = (Q1 * 4294967296 + Q0) * y * p + rem := by
          rw [hN, Int.mul_assoc, hV]
          have e : (Q1 * 4294967296 + Q0) * v = v * Q1 * 4294967296 + v * Q0 := by grind
          rw [e]; omega
        have hr : rem = ((hi * 18446744073709551616 + lo) - (Q1 * 4294967296 + Q0) * y) * p := by rw [Int.sub_mul]; omega
        have hsr : shr .u64 rem (s : Int) = (hi * 18446744073709551616 + lo) - (Q1 * 4294967296 + Q0) * y := by
          unfold shr
          rw [Int.toNat_natCast, Nat.min_eq_left (by show s ≤ 64; omega), hP, hr, Int.mul_ediv_cancel _ (by omega)]
        rw [hsr] at low
        have lo0 : 0 ≤ (hi * 18446744073709551616 + lo) - (Q1 * 4294967296 + Q0) * y := by
          rcases Int.lt_or_le ((hi * 18446744073709551616 + lo) - (Q1 * 4294967296 + Q0) * y) 0 with h | h
          · have := Int.mul_neg_of_neg_of_pos h hp
            omega
          · exact h
        have lo1 : (hi * 18446744073709551616 + lo) - (Q1 * 4294967296 + Q0) * y < y := by
          rw [hr, ← hV] at b2
          exact Int.lt_of_mul_lt_mul_right b2 (Int.le_of_lt hp)
        generalize hi * 18446744073709551616 + lo = N at *
        generalize Q1 * 4294967296 + Q0 = Q at *
        have f1 : N / y = Q := by
          rw [show N = (N - Q * y) + Q * y by omega, Int.add_mul_ediv_right _ _ (by omega), Int.ediv_eq_zero_of_lt lo0 lo1, Int.zero_add]
        have f2 : N % y = N - Q * y := by
          have := Int.emod_add_mul_ediv N y
          rw [f1, Int.mul_comm] at this
          omega
        rw [f1, f2]
        exact low

/-! ### fix.MulDiv -/
theorem fmag_eq (a : Int) (h0 : -4611686018427387904 ≤ a) (h1 : a ≤ 4611686018427387904) : fix_mag.f a = some (absV a) := by
  unfold fix_mag.f absV
  split
  · rw [wrap_in (by omega) (by omega), uwrap_in (by omega) (by omega)]
  · rw [uwrap_in (by omega) (by omega)]

def roundV (neg : Bool) (n d : Int) : Int :=
  if d ≤ n / 18446744073709551616 then (if neg = true then -1099511627776 else 1099511627776) else
  if neg = true then clampV (-(if d - (if 1099511627776 < n / d then 0 else n % d) < (if 1099511627776 < n / d then 0 else n % d) then (if 1099511627776 < n / d then 1099511627777 else n / d) + 1 else (if 1099511627776 < n / d then 1099511627777 else n / d)))
  else clampV (if d - (if 1099511627776 < n / d then 0 else n % d) ≤ (if 1099511627776 < n / d then 0 else n % d) then (if 1099511627776 < n / d then 1099511627777 else n / d) + 1 else (if 1099511627776 < n / d then 1099511627777 else n / d))

theorem md2 (neg : Bool) (d q r : Int) (hd0 : 0 < d) (hd1 : d ≤ 1099511627776) (hq0 : 0 ≤ q) (hq1 : q ≤ 1099511627777) (hr0 : 0 ≤ r) (hr1 : r < d) :
    Ev (fun k => fix_MulDiv.j2 k neg d q r) (if neg = true then clampV (-(if d - r < r then q + 1 else q)) else clampV (if d - r ≤ r then q + 1 else q)) := by
  refine Ev.step (f := fun k => if neg = true then some (clampV (-(if d - r < r then q + 1 else q))) else fix_MulDiv.j3 k (if d - r ≤ r then q + 1 else q)) (fun k => ?_) ?_
  · simp only [fix_MulDiv.j2, clamp_eq, Option.bind_some]
    rw [uwrap_in (x := d - r) (by omega) (by omega), wrap_in (x := q) (by omega) (by omega), wrap_in (x := q + 1) (by omega) (by omega), wrap_in (x := -(q + 1)) (by omega) (by omega), wrap_in (x := -q) (by omega) (by omega)]
    cases neg with
    | true => simp only [if_true, gt_iff_lt]; split <;> rfl
    | false => simp only [Bool.false_eq_true, if_false, ge_iff_le]; split <;> rfl
  · generalize (if d - r < r then q + 1 else q) = x
    generalize (if d - r ≤ r then q + 1 else q) = y
    cases neg with
    | true => simp only [if_true]; exact Ev.now _
    | false =>
      simp only [Bool.false_eq_true, if_false]
      refine Ev.step (f := fun _ => some (clampV y)) (fun k => ?_) (Ev.now _)
      simp only [fix_MulDiv.j3, clamp_eq, Option.bind_some]

theorem md1 (a b c : Int) (neg : Bool) (ha : -1099511627776 ≤ a ∧ a ≤ 1099511627776) (hb : -1099511627776 ≤ b ∧ b ≤ 1099511627776) (hc : -1099511627776 ≤ c ∧ c ≤ 1099511627776) (hc0 : c ≠ 0) :
    Ev (fun k => fix_MulDiv.j1 k a b c neg) (roundV neg (absV a * absV b) (absV c)) := by
  have a0 := absV_nn a
  have b0 := absV_nn b
  have c0 : 0 < absV c := by unfold absV; split <;> omega
  have a1 := absV_le ha.1 ha.2
  have b1 := absV_le hb.1 hb.2
  have c1 := absV_le hc.1 hc.2
  have n0 : 0 ≤ absV a * absV b := Int.mul_nonneg a0 b0
  have n1 : absV a * absV b ≤ 1099511627776 * 1099511627776 := Int.mul_le_mul a1 b1 b0 (by omega)
  have hstep : ∀ k, fix_MulDiv.j1 (k + 1) a b c neg = if absV a * absV b / 18446744073709551616 ≥ absV c then (if neg = true then some (-1099511627776) else some 1099511627776) else
      (bits_Div64.f k (absV a * absV b / 18446744073709551616) (absV a * absV b % 18446744073709551616) (absV c)).bind fun bt => if bt.1 > 1099511627776 then fix_MulDiv.j2 k neg (absV c) 1099511627777 0 else fix_MulDiv.j2 k neg (absV c) bt.1 bt.2 := by
    intro k
    simp only [fix_MulDiv.j1]
    rw [fmag_eq a (by omega) (by omega), fmag_eq b (by omega) (by omega), fmag_eq c (by omega) (by omega)]
    simp only [Option.bind_some]
    rw [mul_eq _ _ a0 (by omega) b0 (by omega)]
    simp only [Option.bind_some]
  generalize absV a * absV b = n at *
  generalize absV c = d at *
  unfold roundV
  by_cases h : d ≤ n / 18446744073709551616
  · rw [if_pos h]
    refine Ev.step (f := fun _ => some _) (fun k => ?_) (Ev.now _)
    rw [hstep, if_pos h]
    cases neg <;> rfl
  · rw [if_neg h]
    have hdiv := div_ev (n / 18446744073709551616) (n % 18446744073709551616) d (by omega) (by omega) (by omega) (by omega) (by omega)
    have e : n / 18446744073709551616 * 18446744073709551616 + n % 18446744073709551616 = n := by omega
    rw [e] at hdiv
    refine Ev.step (fun k => (hstep k).trans (if_neg h)) (Ev.bind hdiv ?_)
    have r0 := Int.emod_nonneg n (by omega : d ≠ 0)
    have r1 := Int.emod_lt_of_pos n c0
    have q0 : 0 ≤ n / d := Int.ediv_nonneg n0 (by omega)
    by_cases hq : n / d > 1099511627776
    · simp only [if_pos hq]
      exact md2 neg d 1099511627777 0 c0 c1 (by omega) (by omega) (by omega) (by omega)
    · simp only [if_neg hq]
      exact md2 neg d (n / d) (n % d) c0 c1 q0 (by omega) r0 r1

def negV (a b c : Int) : Bool := if c < 0 then !(if b < 0 then !(decide (a < 0)) else decide (a < 0)) else (if b < 0 then !(decide (a < 0)) else decide (a < 0))
def mulDivV (a b c : Int) : Int := if clampV c = 0 then 0 else roundV (negV (clampV a) (clampV b) (clampV c)) (absV (clampV a) * absV (clampV b)) (absV (clampV c))

theorem mulDiv_ev (a b c : Int) : Ev (fun k => fix_MulDiv.f k a b c) (mulDivV a b c) := by
  unfold mulDivV fix_MulDiv.f
  simp only [clamp_eq, Option.bind_some]
  have ha := clampV_le a
  have hb := clampV_le b
  have hc := clampV_le c
  generalize clampV a = a at *
  generalize clampV b = b at *
  generalize clampV c = c at *
  by_cases h : c = 0
  · simp only [if_pos h]; exact Ev.now _
  · simp only [if_neg h]
    have key : ∀ neg, Ev (fun k => fix_MulDiv.j0 k a b c neg) (roundV (if c < 0 then !neg else neg) (absV a * absV b) (absV c)) := by
      intro neg
      refine Ev.step (f := fun k => fix_MulDiv.j1 k a b c (if c < 0 then !neg else neg)) (fun k => ?_) (md1 a b c _ ha hb hc h)
      simp only [fix_MulDiv.j0]
      split <;> rfl
    unfold negV
    by_cases hb0 : b < 0
    · simp only [if_pos hb0]; exact key _
    · simp only [if_neg hb0]; exact key _

theorem roundV_le (neg : Bool) (n d : Int) : -1099511627776 ≤ roundV neg n d ∧ roundV neg n d ≤ 1099511627776 := by
  unfold roundV
  split
  · cases neg <;> simp
  · split <;> exact clampV_le _
theorem mulDivV_le (a b c : Int) : -1099511627776 ≤ mulDivV a b c ∧ mulDivV a b c ≤ 1099511627776 := by
  unfold mulDivV
  split
  · omega
  · exact roundV_le _ _ _
def mulV (a b : Int) : Int := mulDivV a b 65536
theorem mul_ev (a b : Int) : Ev (fun k => fix_Mul.f k a b) (mulV a b) := by
  unfold fix_Mul.f
  exact Ev.bind (mulDiv_ev a b 65536) (Ev.now _)
noncomputable def lenV (x y : Int) : Int := val fun k => vec_Len.f k x y
theorem len_ev (x y : Int) : Ev (fun k => vec_Len.f k x y) (lenV x y) := val_ev (let ⟨r, _, h⟩ := vlen_ev x y; ⟨_, h⟩)
theorem lenV_eq (x y : Int) : ∃ r : Int, lenV x y = clampV r ∧ 0 ≤ r ∧ r * r ≤ clampV x * clampV x + clampV y * clampV y ∧ clampV x * clampV x + clampV y * clampV y < (r + 1) * (r + 1) := by
  obtain ⟨r, hr, h⟩ := vlen_ev x y
  exact ⟨r, ev_uniq (len_ev x y) h, hr⟩
end Go.Proofs.Ytfallkiaojefnaa.NumBonesLong
