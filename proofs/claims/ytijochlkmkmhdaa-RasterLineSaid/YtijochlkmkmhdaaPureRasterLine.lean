/- What the printed law RasterLine computes is true, whatever the numbers. Under no condition. -/
import Derived.Test.YtijochlkmkmhdaaRasterRasterLine
namespace Go.Proofs.Ytijochlkmkmhdaa.Pure
open Go.RowKit Go.Proofs.YtijochlkmkmhdaaW.PrintWords Go.Proofs.YtijochlkmkmhdaaW.PrintLast Go.Proofs.YtijochlkmkmhdaaW.PrintMore Go.Proofs.Ytijochlkmkmhdaa.PRasterLine Go.Proofs.Ytijochlkmkmhdaa.RasterRasterLine
set_option linter.unusedVariables false

def rowV (u0 v0 u1 v1 u : Int) : Int := if u1 = u0 then v0 else v0 + (2 * (v1 - v0) * (u - u0) + (u1 - u0)) / (2 * (u1 - u0))
theorem lineW_iff (u0 v0 u1 v1 u v : Int) : lineW u0 v0 u1 v1 u v = decide (u0 ≤ u ∧ u ≤ u1 ∧ v = rowV u0 v0 u1 v1 u) := by
  unfold lineW rowV
  by_cases h : u < u0 ∨ u1 < u
  · rw [if_pos h, eq_comm, decide_eq_false_iff_not]; omega
  · rw [if_neg h]
    by_cases c : u1 = u0
    · rw [if_pos c, if_pos c, Bool.eq_iff_iff, beq_iff_eq, decide_eq_true_eq]; omega
    · rw [if_neg c, if_neg c, Bool.eq_iff_iff, beq_iff_eq, decide_eq_true_eq]
      constructor
      · intro e; exact ⟨by omega, by omega, e⟩
      · intro e; exact e.2.2
theorem row_first (u0 v0 u1 v1 : Int) (h : u0 ≤ u1) : rowV u0 v0 u1 v1 u0 = v0 := by
  unfold rowV
  split
  · rfl
  · rw [show u0 - u0 = 0 by omega, Int.mul_zero, Int.zero_add]
    have : (u1 - u0) / (2 * (u1 - u0)) = 0 := Int.ediv_eq_zero_of_lt (by omega) (by omega)
    omega
theorem row_last (u0 v0 u1 v1 : Int) (h : u0 ≤ u1) (hv : u1 = u0 → v1 = v0) : rowV u0 v0 u1 v1 u1 = v1 := by
  unfold rowV
  split
  · rename_i e; exact (hv e).symm
  · have e : 2 * (v1 - v0) * (u1 - u0) + (u1 - u0) = (u1 - u0) + (v1 - v0) * (2 * (u1 - u0)) := by rw [Int.mul_comm 2 (v1 - v0), Int.mul_assoc]; omega
    rw [e, Int.add_mul_ediv_right _ _ (by omega)]
    have : (u1 - u0) / (2 * (u1 - u0)) = 0 := Int.ediv_eq_zero_of_lt (by omega) (by omega)
    omega
theorem row_between (u0 v0 u1 v1 u : Int) (h0 : u0 ≤ u) (h1 : u ≤ u1) : (v0 ≤ rowV u0 v0 u1 v1 u ∨ v1 ≤ rowV u0 v0 u1 v1 u) ∧ (rowV u0 v0 u1 v1 u ≤ v0 ∨ rowV u0 v0 u1 v1 u ≤ v1) := by
  unfold rowV
  split
  · omega
  · have hd : 0 < 2 * (u1 - u0) := by omega
    generalize hq : (2 * (v1 - v0) * (u - u0) + (u1 - u0)) / (2 * (u1 - u0)) = q
    have hm : 2 * (v1 - v0) * (u - u0) = 2 * ((v1 - v0) * (u - u0)) := Int.mul_assoc _ _ _
    rcases Int.le_total v0 v1 with hv | hv
    · have a1 : 0 ≤ (v1 - v0) * (u - u0) := Int.mul_nonneg (by omega) (by omega)
      have a2 : (v1 - v0) * (u - u0) ≤ (v1 - v0) * (u1 - u0) := Int.mul_le_mul_of_nonneg_left (by omega) (by omega)
      have b1 : 0 ≤ q := by rw [← hq]; exact Int.ediv_nonneg (by omega) (by omega)
      have b2 : q < (v1 - v0) + 1 := by
        rw [← hq, Int.ediv_lt_iff_lt_mul hd, Int.add_mul]
        have : (v1 - v0) * (2 * (u1 - u0)) = 2 * ((v1 - v0) * (u1 - u0)) := by rw [Int.mul_left_comm]
        omega
      omega
    · have a1 : 0 ≤ (v0 - v1) * (u - u0) := Int.mul_nonneg (by omega) (by omega)
      have a2 : (v0 - v1) * (u - u0) ≤ (v0 - v1) * (u1 - u0) := Int.mul_le_mul_of_nonneg_left (by omega) (by omega)
      have n1 : (v1 - v0) * (u - u0) = -((v0 - v1) * (u - u0)) := by rw [← Int.neg_mul]; congr 1; omega
      have n2 : (v1 - v0) * (u1 - u0) = -((v0 - v1) * (u1 - u0)) := by rw [← Int.neg_mul]; congr 1; omega
      have b1 : q < 1 := by
        rw [← hq, Int.ediv_lt_iff_lt_mul hd]
        omega
      have b2 : v1 - v0 ≤ q := by
        rw [← hq, Int.le_ediv_iff_mul_le hd]
        have : (v1 - v0) * (2 * (u1 - u0)) = 2 * ((v1 - v0) * (u1 - u0)) := by rw [Int.mul_left_comm]
        omega
      omega

theorem ab_eq (d : Int) : (0 ≤ d ∧ ab d = d) ∨ (d < 0 ∧ ab d = -d) := by unfold ab mx; split <;> omega

/-- A line's pixels, told by its long side. -/
theorem line_facts (u0 v0 u1 v1 : Int) (hd : ab (v1 - v0) ≤ ab (u1 - u0)) : ∃ (lo hi : Int) (φ : Int → Int), lo ≤ hi ∧ (lo = u0 ∧ hi = u1 ∨ lo = u1 ∧ hi = u0) ∧ hi - lo = ab (u1 - u0) ∧
    (∀ u, lo ≤ u → u ≤ hi → (v0 ≤ φ u ∨ v1 ≤ φ u) ∧ (φ u ≤ v0 ∨ φ u ≤ v1)) ∧ φ u0 = v0 ∧ φ u1 = v1 ∧ ∀ u v, lineV u0 v0 u1 v1 u v = decide (lo ≤ u ∧ u ≤ hi ∧ v = φ u) := by
  have q1 := ab_eq (u1 - u0)
  have q2 := ab_eq (v1 - v0)
  by_cases c : u1 < u0
  · refine ⟨u1, u0, rowV u1 v1 u0 v0, by omega, by omega, by omega, fun u a b => ?_, row_last _ _ _ _ (by omega) (by omega), row_first _ _ _ _ (by omega), fun u v => ?_⟩
    · have := row_between u1 v1 u0 v0 u a b; omega
    · unfold lineV; rw [if_pos c]; exact lineW_iff ..
  · refine ⟨u0, u1, rowV u0 v0 u1 v1, by omega, by omega, by omega, fun u a b => row_between u0 v0 u1 v1 u a b, row_first _ _ _ _ (by omega), row_last _ _ _ _ (by omega) (by omega), fun u v => ?_⟩
    unfold lineV; rw [if_neg c]; exact lineW_iff ..

theorem lineV_swap (u0 v0 u1 v1 u v : Int) (hd : ab (v1 - v0) ≤ ab (u1 - u0)) : lineV u0 v0 u1 v1 u v = lineV u1 v1 u0 v0 u v := by
  have q1 := ab_eq (u1 - u0)
  have q2 := ab_eq (v1 - v0)
  unfold lineV
  by_cases c : u1 < u0
  · rw [if_pos c, if_neg (by omega)]
  · rw [if_neg c]
    by_cases d : u0 < u1
    · rw [if_pos d]
    · rw [if_neg d]
      obtain rfl : u1 = u0 := by omega
      obtain rfl : v1 = v0 := by omega
      rfl
theorem onV_swap (x0 y0 x1 y1 x y : Int) : onV x0 y0 x1 y1 x y = onV x1 y1 x0 y0 x y := by
  have q1 := ab_eq (x1 - x0)
  have q2 := ab_eq (y1 - y0)
  have q3 := ab_eq (x0 - x1)
  have q4 := ab_eq (y0 - y1)
  unfold onV
  by_cases c : ab (x1 - x0) < ab (y1 - y0)
  · rw [if_pos c, if_pos (by omega)]; exact lineV_swap _ _ _ _ _ _ (by omega)
  · rw [if_neg c, if_neg (by omega)]; exact lineV_swap _ _ _ _ _ _ (by omega)

/-! ### Sums -/
def S : Nat → (Nat → Int) → Int
  | 0, _ => 0
  | n + 1, f => S n f + f n
theorem S_congr (n : Nat) (f g : Nat → Int) (h : ∀ i, i < n → f i = g i) : S n f = S n g := by
  induction n with
  | zero => rfl
  | succ n ih => rw [S, S, ih (fun i hi => h i (by omega)), h n (by omega)]
theorem S_add (n : Nat) (f g : Nat → Int) : S n (fun i => f i + g i) = S n f + S n g := by
  induction n with
  | zero => rfl
  | succ n ih => rw [S, S, S, ih]; omega
theorem S_zero (n : Nat) : S n (fun _ => 0) = 0 := by
  induction n with
  | zero => rfl
  | succ n ih => rw [S, ih]; rfl
theorem S_swap (n m : Nat) (f : Nat → Nat → Int) : S n (fun i => S m (fun j => f i j)) = S m (fun j => S n (fun i => f i j)) := by
  induction n with
  | zero => exact (S_zero m).symm
  | succ n ih =>
    rw [S, ih, ← S_add]
    rfl
theorem S_split (a b : Nat) (f : Nat → Int) : S (a + b) f = S a f + S b (fun i => f (a + i)) := by
  induction b with
  | zero => simp [S]
  | succ b ih => rw [← Nat.add_assoc, S, S, ih]; omega
theorem S_mul (n m : Nat) (f : Nat → Int) : S (n * m) f = S n (fun r => S m (fun c => f (r * m + c))) := by
  induction n with
  | zero => simp [S]
  | succ n ih => rw [Nat.add_mul, Nat.one_mul, S_split, ih, S]
theorem S_point (n : Nat) (q : Int) (h0 : 0 ≤ q) (h1 : q < n) : S n (fun i => if (i : Int) = q then 1 else 0) = 1 := by
  induction n with
  | zero => omega
  | succ n ih =>
    rw [S]
    by_cases c : (n : Int) = q
    · rw [if_pos c, S_congr n _ (fun _ => 0) (fun i hi => if_neg (by omega)), S_zero]; rfl
    · rw [if_neg c, ih (by omega)]; rfl
theorem S_range (n : Nat) (lo hi : Int) (h0 : 0 ≤ lo) (h1 : lo ≤ hi + 1) (h2 : hi < n) : S n (fun i => if lo ≤ (i : Int) ∧ (i : Int) ≤ hi then 1 else 0) = hi - lo + 1 := by
  induction n generalizing hi with
  | zero => rw [S]; omega
  | succ n ih =>
    rw [S]
    by_cases c : hi = n
    · by_cases d : lo ≤ n
      · rw [if_pos (by omega)]
        have := ih (hi - 1) (by omega) (by omega)
        rw [S_congr n _ (fun i => if lo ≤ (i : Int) ∧ (i : Int) ≤ hi - 1 then 1 else 0) (fun i hi' => by
          by_cases e : lo ≤ (i : Int)
          · rw [if_pos ⟨e, by omega⟩, if_pos ⟨e, by omega⟩]
          · rw [if_neg (fun z => e z.1), if_neg (fun z => e z.1)]), this]
        omega
      · rw [if_neg (by omega), S_congr n _ (fun _ => 0) (fun i hi' => if_neg (by omega)), S_zero]; omega
    · rw [if_neg (by omega), ih hi h1 (by omega)]; omega
theorem S_graph (lo hi : Int) (φ : Int → Int) (h0 : 0 ≤ lo) (h1 : lo ≤ hi) (h2 : hi < 30) (hφ : ∀ u, lo ≤ u → u ≤ hi → 0 ≤ φ u ∧ φ u < 30) :
    S 30 (fun u => S 30 fun v => if lo ≤ (u : Int) ∧ (u : Int) ≤ hi ∧ (v : Int) = φ u then 1 else 0) = hi - lo + 1 := by
  rw [← S_range 30 lo hi h0 (by omega) (by omega)]
  refine S_congr _ _ _ fun u hu => ?_
  by_cases c : lo ≤ (u : Int) ∧ (u : Int) ≤ hi
  · rw [if_pos c]
    have := hφ u c.1 c.2
    refine (S_congr _ _ _ fun v hv => ?_).trans (S_point 30 (φ u) this.1 (by omega))
    by_cases d : (v : Int) = φ u
    · rw [if_pos ⟨c.1, c.2, d⟩, if_pos d]
    · rw [if_neg (fun z => d z.2.2), if_neg d]
  · rw [if_neg c, ← S_zero 30]
    exact S_congr _ _ _ fun v hv => if_neg (fun z => c ⟨z.1, z.2.1⟩)

/-! ### The thing -/
abbrev lineT (a b : V) : Th := ⟨1, 0, 1, [a, b]⟩
def inR (p : V) : Prop := (0 ≤ p.f0 ∧ p.f0 < 1966080) ∧ 0 ≤ p.f1 ∧ p.f1 < 1966080
theorem line_right (a b : V) (ha : inR a) (hb : inR b) : faultV (lineT a b) = 0 := by
  unfold inR at ha hb
  unfold faultV
  rw [if_pos (by simp), if_pos (by simp), if_pos]
  intro p hp
  unfold okV
  rcases List.mem_cons.mp hp with rfl | hp
  · omega
  · rcases List.mem_cons.mp hp with rfl | hp
    · omega
    · cases hp
theorem seen_line (a b : V) (x y : Int) : seenV (lineT a b) x y = onV (a.f0 / 65536) (a.f1 / 65536) (b.f0 / 65536) (b.f1 / 65536) x y := by
  unfold seenV
  show (inB (lineT a b) x y && onV (a.f0 / 65536) (a.f1 / 65536) (b.f0 / 65536) (b.f1 / 65536) x y) = _
  rw [Bool.and_eq_right_iff_imp]
  intro h
  unfold inB boxV
  rw [decide_eq_true_eq]
  have key : (a.f0 / 65536 ≤ x ∨ b.f0 / 65536 ≤ x) ∧ (x ≤ a.f0 / 65536 ∨ x ≤ b.f0 / 65536) ∧ (a.f1 / 65536 ≤ y ∨ b.f1 / 65536 ≤ y) ∧ (y ≤ a.f1 / 65536 ∨ y ≤ b.f1 / 65536) := by
    unfold onV at h
    split at h
    · rename_i c
      obtain ⟨lo, hi, φ, h1, h2, h3, h4, h5, h6, h7⟩ := line_facts (a.f1 / 65536) (a.f0 / 65536) (b.f1 / 65536) (b.f0 / 65536) (by omega)
      rw [h7, decide_eq_true_eq] at h
      have := h4 y h.1 h.2.1
      omega
    · rename_i c
      obtain ⟨lo, hi, φ, h1, h2, h3, h4, h5, h6, h7⟩ := line_facts (a.f0 / 65536) (a.f1 / 65536) (b.f0 / 65536) (b.f1 / 65536) (by omega)
      rw [h7, decide_eq_true_eq] at h
      have := h4 x h.1 h.2.1
      omega
  unfold mn mx
  refine ⟨?_, ?_, ?_, ?_⟩
  all_goals
    simp only [Int.lt_irrefl, if_false]
    split <;> omega

def g1 (x0 y0 x1 y1 x y : Int) : Int := if onV x0 y0 x1 y1 x y = true then 1 else 0
theorem colour_line (a b : V) (x y : Int) : colour [lineT a b] x y 0 = g1 (a.f0 / 65536) (a.f1 / 65536) (b.f0 / 65536) (b.f1 / 65536) x y := by
  unfold colour g1
  simp only [List.foldl_cons, List.foldl_nil, seen_line]

/-- As many pixels as columns, or rows. -/
theorem many (x0 y0 x1 y1 : Int) (h0 : 0 ≤ x0 ∧ x0 < 30) (h1 : 0 ≤ y0 ∧ y0 < 30) (h2 : 0 ≤ x1 ∧ x1 < 30) (h3 : 0 ≤ y1 ∧ y1 < 30) :
    S 900 (fun i => g1 x0 y0 x1 y1 ((i % 30 : Nat) : Int) ((i / 30 : Nat) : Int)) = 1 + mx (mx (mx (x0 - x1) (-(x0 - x1))) (y0 - y1)) (-(y0 - y1)) ∧ g1 x0 y0 x1 y1 x0 y0 = 1 ∧ g1 x0 y0 x1 y1 x1 y1 = 1 := by
  have q1 := ab_eq (x1 - x0)
  have q2 := ab_eq (y1 - y0)
  have hs : S 900 (fun i => g1 x0 y0 x1 y1 ((i % 30 : Nat) : Int) ((i / 30 : Nat) : Int)) = S 30 (fun r => S 30 fun c => g1 x0 y0 x1 y1 (c : Int) (r : Int)) := by
    refine (S_mul 30 30 _).trans ?_
    refine S_congr _ _ _ fun r hr => S_congr _ _ _ fun c hc => ?_
    rw [show (r * 30 + c) % 30 = c by omega, show (r * 30 + c) / 30 = r by omega]
  rw [hs]
  by_cases c : ab (x1 - x0) < ab (y1 - y0)
  · obtain ⟨lo, hi, φ, k1, k2, k3, k4, k5, k6, k7⟩ := line_facts y0 x0 y1 x1 (by omega)
    have e : ∀ x y, g1 x0 y0 x1 y1 x y = if lo ≤ y ∧ y ≤ hi ∧ x = φ y then 1 else 0 := by
      intro x y
      unfold g1 onV
      rw [if_pos c, k7]
      simp only [decide_eq_true_eq]
    refine ⟨?_, ?_, ?_⟩
    · have hmax : (1 + mx (mx (mx (x0 - x1) (-(x0 - x1))) (y0 - y1)) (-(y0 - y1))) = hi - lo + 1 := by
        unfold mx
        (repeat' split) <;> omega
      rw [hmax, ← S_graph lo hi φ (by omega) k1 (by omega) (fun u a b => by have := k4 u a b; omega)]
      exact S_congr _ _ _ fun r hr => S_congr _ _ _ fun c hc => e c r
    · rw [e, if_pos ⟨by omega, by omega, k5.symm⟩]
    · rw [e, if_pos ⟨by omega, by omega, k6.symm⟩]
  · obtain ⟨lo, hi, φ, k1, k2, k3, k4, k5, k6, k7⟩ := line_facts x0 y0 x1 y1 (by omega)
    have e : ∀ x y, g1 x0 y0 x1 y1 x y = if lo ≤ x ∧ x ≤ hi ∧ y = φ x then 1 else 0 := by
      intro x y
      unfold g1 onV
      rw [if_neg c, k7]
      simp only [decide_eq_true_eq]
    refine ⟨?_, ?_, ?_⟩
    · have hmax : (1 + mx (mx (mx (x0 - x1) (-(x0 - x1))) (y0 - y1)) (-(y0 - y1))) = hi - lo + 1 := by
        unfold mx
        (repeat' split) <;> omega
      rw [hmax, ← S_graph lo hi φ (by omega) k1 (by omega) (fun u a b => by have := k4 u a b; omega), S_swap]
      exact S_congr _ _ _ fun r hr => S_congr _ _ _ fun c hc => e r c
    · rw [e, if_pos ⟨by omega, by omega, k5.symm⟩]
    · rw [e, if_pos ⟨by omega, by omega, k6.symm⟩]

/-! ### The law -/
theorem below_eq (a : Int) : ∃ b, tourref5_Below.f a 1966080 = some b ∧ 0 ≤ b ∧ b < 1966080 := by
  have h3 := Int.tmod_lt_of_pos a (show (0 : Int) < 1966080 by omega)
  have h4 := Int.lt_tmod_of_pos a (show (0 : Int) < 1966080 by omega)
  unfold tourref5_Below.f
  rw [if_neg (by omega)]
  by_cases c : Int.tmod a 1966080 < 0
  · rw [if_pos c, wrap_in (by omega) (by omega)]; exact ⟨_, rfl, by omega, by omega⟩
  · rw [if_neg c]; exact ⟨_, rfl, by omega, by omega⟩

theorem draws_ev : Ev (fun k => tourkeep5_draws.f k) true := Ev.of (fun k => tourkeep5_draws.mono k) (k := 60) (by decide +kernel)

theorem rd_grid (g : Int → Int → Int) (i : Nat) (hi : i < 900) : rd (grid 0 0 30 30 g) i = g ((i % 30 : Nat) : Int) ((i / 30 : Nat) : Int) := by
  have := grid_get 0 0 30 30 g i hi
  unfold rd
  rw [Int.toNat_natCast, List.getD_eq_getElem?_getD, this]
  simp

theorem RasterLine : tourkeep5_RasterLine.Pure := by
  intro a0 a1 a2 a3 _ _ _ _
  suffices h : Ev (fun k => tourkeep5_RasterLine.f k a0 a1 a2 a3) true from h.rounds
  obtain ⟨b0, e0, h00, h01⟩ := below_eq a0
  obtain ⟨b1, e1, h10, h11⟩ := below_eq a1
  obtain ⟨b2, e2, h20, h21⟩ := below_eq a2
  obtain ⟨b3, e3, h30, h31⟩ := below_eq a3
  unfold tourkeep5_RasterLine.f
  refine Ev.bind draws_ev ?_
  simp only [if_true, e0, e1, e2, e3, Option.bind_some]
  have hA : okA 0 0 30 30 := by unfold okA; omega
  have hab : faultV (lineT ⟨b0, b1⟩ ⟨b2, b3⟩) = 0 := line_right _ _ (by unfold inR; simp only; omega) (by unfold inR; simp only; omega)
  have hba : faultV (lineT ⟨b2, b3⟩ ⟨b0, b1⟩) = 0 := line_right _ _ (by unfold inR; simp only; omega) (by unfold inR; simp only; omega)
  have p1 := picture_ev 0 0 30 30 hA [lineT ⟨b0, b1⟩ ⟨b2, b3⟩] (by simp) (by intro t ht; rw [List.mem_singleton] at ht; rw [ht]; exact hab)
  have p2 := picture_ev 0 0 30 30 hA [lineT ⟨b2, b3⟩ ⟨b0, b1⟩] (by simp) (by intro t ht; rw [List.mem_singleton] at ht; rw [ht]; exact hba)
  simp only [colour_line] at p1 p2
  have same : (fun x y => g1 (b2 / 65536) (b3 / 65536) (b0 / 65536) (b1 / 65536) x y) = fun x y => g1 (b0 / 65536) (b1 / 65536) (b2 / 65536) (b3 / 65536) x y := by
    funext x y
    unfold g1
    rw [onV_swap]
  rw [same] at p2
  have hm := many (b0 / 65536) (b1 / 65536) (b2 / 65536) (b3 / 65536) (by omega) (by omega) (by omega) (by omega)
  have hg : ∀ x y, 0 ≤ g1 (b0 / 65536) (b1 / 65536) (b2 / 65536) (b3 / 65536) x y ∧ g1 (b0 / 65536) (b1 / 65536) (b2 / 65536) (b3 / 65536) x y ≤ 1 := by
    intro x y; unfold g1; split <;> omega
  have t0 : Int.tdiv b0 65536 = b0 / 65536 := Int.tdiv_eq_ediv_of_nonneg h00
  have t1 : Int.tdiv b1 65536 = b1 / 65536 := Int.tdiv_eq_ediv_of_nonneg h10
  have t2 : Int.tdiv b2 65536 = b2 / 65536 := Int.tdiv_eq_ediv_of_nonneg h20
  have t3 : Int.tdiv b3 65536 = b3 / 65536 := Int.tdiv_eq_ediv_of_nonneg h30
  have r0 : 0 ≤ b0 / 65536 ∧ b0 / 65536 < 30 := by omega
  have r1 : 0 ≤ b1 / 65536 ∧ b1 / 65536 < 30 := by omega
  have r2 : 0 ≤ b2 / 65536 ∧ b2 / 65536 < 30 := by omega
  have r3 : 0 ≤ b3 / 65536 ∧ b3 / 65536 < 30 := by omega
  generalize hG : (fun x y => g1 (b0 / 65536) (b1 / 65536) (b2 / 65536) (b3 / 65536) x y) = G at *
  refine Ev.bind p1 ?_
  refine Ev.bind p2 ?_
  have hlen : (grid 0 0 30 30 G).length = 900 := grid_length 0 0 30 30 G
  have h9 : ((900 : Nat) : Int) = 900 := rfl
  simp only [if_true, hlen, h9]
  refine Ev.bind (equal_ev _ (by rw [hlen]; omega)) ?_
  refine Ev.step (fun k => by rw [Bool.not_true, tourkeep5_RasterLine.j0, if_neg (by simp)]) ?_
  rw [hlen, h9]
  have hrd := rd_grid G
  have hGe : ∀ x y, G x y = g1 (b0 / 65536) (b1 / 65536) (b2 / 65536) (b3 / 65536) x y := fun x y => by rw [← hG]
  have key : ∀ n i : Nat, i + n = 900 → Ev (fun k => tourkeep5_RasterLine.l0 k (grid 0 0 30 30 G) (S i fun i => G ((i % 30 : Nat) : Int) ((i / 30 : Nat) : Int)) (grid 0 0 30 30 G) 900 i b0 b1 b2 b3) true := by
    intro n
    induction n with
    | zero =>
      intro i hi
      refine Ev.step (f := fun _ => some true) (fun k => ?_) (Ev.now _)
      obtain rfl : i = 900 := by omega
      rw [tourkeep5_RasterLine.l0, if_neg (by omega), t0, t1, t2, t3]
      generalize b0 / 65536 = x0 at *
      generalize b1 / 65536 = y0 at *
      generalize b2 / 65536 = x1 at *
      generalize b3 / 65536 = y1 at *
      simp only [wrap_in (x := x0) (by omega) (by omega), wrap_in (x := y0) (by omega) (by omega), wrap_in (x := x1) (by omega) (by omega), wrap_in (x := y1) (by omega) (by omega), wrap_in (x := x0 - x1) (by omega) (by omega), wrap_in (x := y0 - y1) (by omega) (by omega),
        wrap_in (x := -(x0 - x1)) (by omega) (by omega), wrap_in (x := -(y0 - y1)) (by omega) (by omega), wrap_in (x := 30 * y0) (by omega) (by omega), wrap_in (x := x0 + 30 * y0) (by omega) (by omega), wrap_in (x := 30 * y1) (by omega) (by omega), wrap_in (x := x1 + 30 * y1) (by omega) (by omega)]
      have hmx : 0 ≤ mx (mx (mx (x0 - x1) (-(x0 - x1))) (y0 - y1)) (-(y0 - y1)) ∧ mx (mx (mx (x0 - x1) (-(x0 - x1))) (y0 - y1)) (-(y0 - y1)) ≤ 30 := by
        unfold mx; repeat' split
        all_goals omega
      rw [wrap_in (x := 1 + _) (by omega) (by omega)]
      obtain ⟨i0, hi0⟩ := Int.eq_ofNat_of_zero_le (show 0 ≤ x0 + 30 * y0 by omega)
      obtain ⟨i1, hi1⟩ := Int.eq_ofNat_of_zero_le (show 0 ≤ x1 + 30 * y1 by omega)
      simp only [hGe]
      rw [hi0, hi1, if_pos hm.1, if_pos (by omega), if_pos (by rw [hlen]; omega), hrd i0 (by omega), if_pos, if_pos (by omega), if_pos (by rw [hlen]; omega), hrd i1 (by omega)]
      · rw [hGe, show ((i1 % 30 : Nat) : Int) = x1 by omega, show ((i1 / 30 : Nat) : Int) = y1 by omega, hm.2.2]
        rfl
      · rw [hGe, show ((i0 % 30 : Nat) : Int) = x0 by omega, show ((i0 / 30 : Nat) : Int) = y0 by omega, hm.2.1]
    | succ n ih =>
      intro i hi
      have bd : ∀ m : Nat, 0 ≤ (S m fun i => G ((i % 30 : Nat) : Int) ((i / 30 : Nat) : Int)) ∧ (S m fun i => G ((i % 30 : Nat) : Int) ((i / 30 : Nat) : Int)) ≤ m := by
        intro m
        induction m with
        | zero => exact ⟨Int.le_refl _, Int.le_refl _⟩
        | succ m ih2 =>
          rw [S]
          have := hg ((m % 30 : Nat) : Int) ((m / 30 : Nat) : Int)
          rw [← hGe] at this
          omega
      have b1' := bd i
      have b2' := hg ((i % 30 : Nat) : Int) ((i / 30 : Nat) : Int)
      rw [← hGe] at b2'
      refine Ev.step (fun k => by rw [tourkeep5_RasterLine.l0, if_pos (by omega), if_pos (by omega), if_pos (by rw [hlen]; omega), hrd i (by omega), wrap_in (x := (i : Int) + 1) (by omega) (by omega), wrap_in (x := _ + G _ _) (by omega) (by omega)]) ?_
      have := ih (i + 1) (by omega)
      rw [S, show (((i + 1 : Nat) : Int)) = (i : Int) + 1 by omega] at this
      exact this
  have := key 900 0 (by omega)
  rw [S] at this
  exact this
end Go.Proofs.Ytijochlkmkmhdaa.Pure
