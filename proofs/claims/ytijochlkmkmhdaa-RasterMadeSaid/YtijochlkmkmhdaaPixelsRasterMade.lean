/- The reference's picture of right things: what the printed functions of tourref5 compute, told plainly; and what a thing covers lies in its box. -/
import Derived.Test.YtijochlkmkmhdaaRasterRasterMade
namespace Go.Proofs.Ytijochlkmkmhdaa.PixelsRasterMade
open Go.RowKit Go.Proofs.YtijochlkmkmhdaaW.PrintWords Go.Proofs.YtijochlkmkmhdaaW.PrintLast Go.Proofs.YtijochlkmkmhdaaW.PrintMore Go.Proofs.Ytijochlkmkmhdaa.PRasterMade Go.Proofs.Ytijochlkmkmhdaa.RasterRasterMade
set_option linter.unusedVariables false
set_option linter.unusedSimpArgs false

/-! ### Faults -/
theorem far_eq (p : V) : tourref5_ThingFault.far p = !decide (okV p) := by
  unfold tourref5_ThingFault.far
  by_cases h : okV p
  · rw [decide_eq_true h]
    unfold okV at h
    rw [decide_eq_false (by omega), decide_eq_false (by omega), decide_eq_false (by omega), decide_eq_false (by omega)]
    rfl
  · rw [decide_eq_false h]
    unfold okV at h
    rw [← Bool.decide_or, ← Bool.decide_or, ← Bool.decide_or]
    exact decide_eq_true (by omega)
theorem tf_l0 (l : List V) (hl : l.length ≤ 9223372036854775807) : ∀ n i : Nat, i + n = l.length → ∀ k, tourref5_ThingFault.l0 (k + n + 1) l i = some (if ∀ p ∈ l.drop i, okV p then 0 else 2) := by
  intro n
  induction n with
  | zero =>
    intro i hi k
    rw [tourref5_ThingFault.l0, if_neg (by omega), List.drop_eq_nil_of_le (by omega), if_pos (by simp)]
  | succ n ih =>
    intro i hi k
    have hd : l.drop i = rd_T46 l i :: l.drop (i + 1) := by
      rw [List.drop_eq_getElem_cons (by omega)]
      congr 1
      simp [rd_T46, show i < l.length by omega]
    rw [show k + (n + 1) + 1 = (k + n + 1) + 1 by omega, tourref5_ThingFault.l0, if_pos (by omega), if_pos (by omega), hd, wrap_in (x := (i : Int) + 1) (by omega) (by omega)]
    generalize rd_T46 l i = p
    have := ih (i + 1) (by omega) k
    rw [show ((i + 1 : Nat) : Int) = (i : Int) + 1 by omega] at this
    rw [this, far_eq]
    by_cases h : okV p
    · rw [if_neg (by simp [h])]
      by_cases c : ∀ q ∈ l.drop (i + 1), okV q
      · rw [if_pos c, if_pos (by intro q hq; rcases List.mem_cons.mp hq with rfl | hq; exact h; exact c q hq)]
      · rw [if_neg c, if_neg (fun g => c fun q hq => g q (List.mem_cons_of_mem _ hq))]
    · rw [if_pos (by simp [h]), if_neg (fun g => h (g p (List.mem_cons_self ..)))]
theorem tf_ev (t : Th) (hl : t.f3.length ≤ 9223372036854775807) : Ev (fun k => tourref5_ThingFault.f k t.f0 t.f1 t.f2 t.f3) (faultV t) := by
  refine ev_steps (t.f3.length + 1) fun k => ?_
  have h0 : tourref5_ThingFault.l0 (k + (t.f3.length + 1)) t.f3 0 = _ := tf_l0 t.f3 hl t.f3.length 0 (by omega) k
  rw [List.drop_zero] at h0
  unfold tourref5_ThingFault.f faultV
  rw [h0]
  generalize (if ∀ p ∈ t.f3, okV p then (0 : Int) else 2) = z
  by_cases hC : (t.f0 = 1 ∧ t.f3.length = 2) ∨ (t.f0 = 2 ∧ t.f3.length = 3)
  · have hw : tourref5_ThingFault.want t.f0 = t.f3.length := by
      unfold tourref5_ThingFault.want
      split
      · omega
      · split <;> omega
    rw [hw, if_neg (by omega), if_pos rfl, if_pos hC]
    by_cases c1 : t.f1 < 0
    · rw [if_pos c1, if_neg (by omega)]
    · rw [if_neg c1]
      by_cases c2 : t.f1 > 100
      · rw [if_pos c2, if_neg (by omega)]
      · rw [if_neg c2]
        by_cases c3 : t.f2 < 1
        · rw [if_pos c3, if_neg (by omega)]
        · rw [if_neg c3]
          by_cases c4 : t.f2 > 255
          · rw [if_pos c4, if_neg (by omega)]
          · rw [if_neg c4, if_pos (by omega)]
  · rw [if_neg hC]
    by_cases c1 : tourref5_ThingFault.want t.f0 = 0
    · rw [if_pos c1]
    · rw [if_neg c1, if_neg]
      intro e
      unfold tourref5_ThingFault.want at e c1
      split at e
      · omega
      · split at e
        · omega
        · rename_i h1 h2
          rw [if_neg h1, if_neg h2] at c1
          exact c1 rfl

def areaV (X Y W H : Int) : Int := if (1 ≤ W ∧ W ≤ 64) ∧ 1 ≤ H ∧ H ≤ 64 then (if (-1000 ≤ X ∧ X ≤ 1000) ∧ -1000 ≤ Y ∧ Y ≤ 1000 then 0 else 1) else 2
theorem af_ev (X Y W H : Int) : Ev (fun k => tourref5_AreaFault.f k X Y W H) (areaV X Y W H) := by
  have j : ∀ b : Bool, (b = true ↔ ¬ ((1 ≤ W ∧ W ≤ 64) ∧ 1 ≤ H ∧ H ≤ 64)) → Ev (fun k => tourref5_AreaFault.j0 k b X Y W H) (areaV X Y W H) := by
    intro b hb
    refine ev_steps 1 fun k => ?_
    rw [tourref5_AreaFault.j0]
    unfold areaV
    by_cases c : b = true
    · rw [if_pos c, if_neg (hb.mp c)]
    · rw [if_neg c, if_pos (c := (1 ≤ W ∧ W ≤ 64) ∧ 1 ≤ H ∧ H ≤ 64) (by by_cases d : (1 ≤ W ∧ W ≤ 64) ∧ 1 ≤ H ∧ H ≤ 64; exact d; exact absurd (hb.mpr d) c)]
      (repeat' split) <;> first | rfl | omega
  unfold tourref5_AreaFault.f
  split
  · exact j _ (by simp; omega)
  · split
    · exact j _ (by simp; omega)
    · split
      · exact j _ (by simp; omega)
      · exact j _ (by rw [decide_eq_true_eq]; omega)
theorem ac_ev (X Y W H : Int) : Ev (fun k => raster_Check.f k X Y W H) (areaV X Y W H) := by
  have j : ∀ b : Bool, (b = true ↔ ¬ ((1 ≤ W ∧ W ≤ 64) ∧ 1 ≤ H ∧ H ≤ 64)) → Ev (fun k => raster_Check.j0 k b X Y W H) (areaV X Y W H) := by
    intro b hb
    refine ev_steps 1 fun k => ?_
    rw [raster_Check.j0]
    unfold areaV
    have m1 := mn_lt (a := X) (b := Y) (c := -1000)
    have m2 := mx_gt (a := X) (b := Y) (c := 1000)
    by_cases c : b = true
    · rw [if_pos c, if_neg (hb.mp c)]
    · rw [if_neg c, if_pos (c := (1 ≤ W ∧ W ≤ 64) ∧ 1 ≤ H ∧ H ≤ 64) (by by_cases d : (1 ≤ W ∧ W ≤ 64) ∧ 1 ≤ H ∧ H ≤ 64; exact d; exact absurd (hb.mpr d) c)]
      (repeat' split) <;> first | rfl | omega
  unfold raster_Check.f
  split
  · exact j _ (by simp; omega)
  · split
    · exact j _ (by simp; omega)
    · split
      · exact j _ (by simp; omega)
      · exact j _ (by rw [decide_eq_true_eq]; omega)
theorem area0 {X Y W H : Int} (h : areaV X Y W H = 0) : ∃ w h' : Nat, W = w ∧ H = h' ∧ okA X Y w h' := by
  unfold areaV at h
  split at h
  · split at h
    · refine ⟨W.toNat, H.toNat, by omega, by omega, ?_⟩
      unfold okA; omega
    · omega
  · omega

/-! ### A line -/
theorem down_eq (k : Nat) (a b : Int) (hb : 0 < b ∧ b ≤ 4611686018427387904) (ha : -4611686018427387904 ≤ a ∧ a ≤ 4611686018427387904) : tourref5_Down.f (k + 2) a b = some (a / b) := by
  have e1 := Int.mul_tdiv_add_tmod a b
  have e2 := Int.mul_ediv_add_emod a b
  have h1 := Int.emod_nonneg a (show b ≠ 0 by omega)
  have h2 := Int.emod_lt_of_pos a hb.1
  have h3 := Int.tmod_lt_of_pos a hb.1
  have h4 := Int.lt_tmod_of_pos a hb.1
  have h5 : (Int.tdiv a b).natAbs ≤ a.natAbs := by rw [Int.natAbs_tdiv]; exact Nat.div_le_self _ _
  have e3 : b * (Int.tdiv a b - a / b) = a % b - Int.tmod a b := by rw [Int.mul_sub]; omega
  have small : ∀ d e : Int, b * d = e → -b < e → e < 2 * b → d = 0 ∨ d = 1 := by
    intro d e h h6 h7
    rcases Int.lt_or_le d 0 with h8 | h8
    · have := Int.mul_le_mul_of_nonneg_left (show d ≤ -1 by omega) (show 0 ≤ b by omega)
      omega
    · rcases Int.lt_or_le 1 d with h9 | h9
      · have := Int.mul_le_mul_of_nonneg_left (show 2 ≤ d by omega) (show 0 ≤ b by omega)
        omega
      · omega
  unfold tourref5_Down.f
  rw [if_neg (by omega)]
  have hw : wrap64 (Int.tdiv a b) = Int.tdiv a b := wrap_in (by omega) (by omega)
  rw [hw, tourref5_Down.l0]
  have m1 : Int.tdiv a b * b = a - Int.tmod a b := by rw [Int.mul_comm]; omega
  rw [m1, wrap_in (by omega) (by omega)]
  rcases small _ _ e3 (by omega) (by omega) with h | h
  · rw [h] at e3
    rw [if_neg (by omega)]
    congr 1; omega
  · rw [h] at e3
    rw [if_pos (by omega), tourref5_Down.l0, wrap_in (x := Int.tdiv a b - 1) (by omega) (by omega)]
    have m2 : (Int.tdiv a b - 1) * b = a - Int.tmod a b - b := by rw [Int.sub_mul, m1]; omega
    rw [m2, wrap_in (by omega) (by omega), if_neg (by omega)]
    congr 1; omega

theorem lj1 (k : Nat) (u v u0 v0 u1 v1 : Int) (hu : -2000 ≤ u ∧ u ≤ 2000) (h0 : -1100 ≤ u0 ∧ u0 ≤ 1100) (h1 : -1100 ≤ u1 ∧ u1 ≤ 1100) (h2 : -1100 ≤ v0 ∧ v0 ≤ 1100) (h3 : -1100 ≤ v1 ∧ v1 ≤ 1100) (hle : u0 ≤ u1) :
    tourref5_lined.j1 (k + 4) u v u0 v0 u1 v1 = some (lineW u0 v0 u1 v1 u v) := by
  have hm := mul_bd (a := 2 * (v1 - v0)) (b := u - u0) (A := 4400) (B := 3100) (by omega) (by omega)
  rw [tourref5_lined.j1]
  unfold lineW
  by_cases a : u < u0
  · rw [if_pos a, if_pos (.inl a), tourref5_lined.j2, if_pos rfl]
  · rw [if_neg a]
    by_cases b : u > u1
    · rw [if_pos (.inr b), tourref5_lined.j2, if_pos (decide_eq_true b)]
    · rw [if_neg (show ¬ (u < u0 ∨ u1 < u) by omega), tourref5_lined.j2, if_neg (by simpa using b)]
      by_cases c : u1 = u0
      · rw [if_pos c.symm, if_pos c]
      · rw [if_neg (fun h => c h.symm), if_neg c]
        rw [wrap_in (x := v1 - v0) (by omega) (by omega), wrap_in (x := 2 * (v1 - v0)) (by omega) (by omega), wrap_in (x := u - u0) (by omega) (by omega), wrap_in (x := 2 * (v1 - v0) * (u - u0)) (by omega) (by omega), wrap_in (x := u1 - u0) (by omega) (by omega), wrap_in (x := 2 * (v1 - v0) * (u - u0) + (u1 - u0)) (by omega) (by omega), wrap_in (x := 2 * (u1 - u0)) (by omega) (by omega),
          down_eq _ _ _ (by omega) (by omega)]
        have hd : (2 * (v1 - v0) * (u - u0) + (u1 - u0)) / (2 * (u1 - u0)) ≤ 100000000 ∧ -100000000 ≤ (2 * (v1 - v0) * (u - u0) + (u1 - u0)) / (2 * (u1 - u0)) := by
          have e := Int.mul_ediv_add_emod (2 * (v1 - v0) * (u - u0) + (u1 - u0)) (2 * (u1 - u0))
          have q1 := Int.emod_nonneg (2 * (v1 - v0) * (u - u0) + (u1 - u0)) (show 2 * (u1 - u0) ≠ 0 by omega)
          have q2 := Int.emod_lt_of_pos (2 * (v1 - v0) * (u - u0) + (u1 - u0)) (show 0 < 2 * (u1 - u0) by omega)
          generalize (2 * (v1 - v0) * (u - u0) + (u1 - u0)) / (2 * (u1 - u0)) = q at *
          constructor
          · rcases Int.lt_or_le 100000000 q with h | h
            · have := Int.mul_le_mul_of_nonneg_left (Int.le_of_lt h) (show 0 ≤ 2 * (u1 - u0) by omega)
              omega
            · exact h
          · rcases Int.lt_or_le q (-100000000) with h | h
            · have := Int.mul_le_mul_of_nonneg_left (Int.le_of_lt h) (show 0 ≤ 2 * (u1 - u0) by omega)
              omega
            · exact h
        show some (v == wrap64 (v0 + _)) = _
        rw [wrap_in (by omega) (by omega)]
theorem lj0 (k : Nat) (u v u0 v0 u1 v1 : Int) (hu : -2000 ≤ u ∧ u ≤ 2000) (h0 : -1100 ≤ u0 ∧ u0 ≤ 1100) (h1 : -1100 ≤ u1 ∧ u1 ≤ 1100) (h2 : -1100 ≤ v0 ∧ v0 ≤ 1100) (h3 : -1100 ≤ v1 ∧ v1 ≤ 1100) :
    tourref5_lined.j0 (k + 5) u v u0 v0 u1 v1 = some (lineV u0 v0 u1 v1 u v) := by
  rw [tourref5_lined.j0]
  unfold lineV
  by_cases a : u1 < u0
  · rw [if_pos a, if_pos a]
    exact lj1 k u v u1 v1 u0 v0 hu h1 h0 h3 h2 (by omega)
  · rw [if_neg a, if_neg a]
    exact lj1 k u v u0 v0 u1 v1 hu h0 h1 h2 h3 (by omega)
theorem lined_eq (k : Nat) (a b : V) (x y : Int) (ha : okV a) (hb : okV b) (hx : okP x) (hy : okP y) :
    tourref5_lined.f (k + 5) a.f0 a.f1 b.f0 b.f1 x y = some (onV (a.f0 / 65536) (a.f1 / 65536) (b.f0 / 65536) (b.f1 / 65536) x y) := by
  unfold okV at ha hb
  unfold okP at hx hy
  unfold tourref5_lined.f tourref5_abs.f onV
  have h1 : -1000 ≤ a.f0 / 65536 ∧ a.f0 / 65536 ≤ 1000 := by omega
  have h2 : -1000 ≤ a.f1 / 65536 ∧ a.f1 / 65536 ≤ 1000 := by omega
  have h3 : -1000 ≤ b.f0 / 65536 ∧ b.f0 / 65536 ≤ 1000 := by omega
  have h4 : -1000 ≤ b.f1 / 65536 ∧ b.f1 / 65536 ≤ 1000 := by omega
  generalize a.f0 / 65536 = x0 at *
  generalize a.f1 / 65536 = y0 at *
  generalize b.f0 / 65536 = x1 at *
  generalize b.f1 / 65536 = y1 at *
  simp only [Option.bind_some]
  rw [wrap_in (x := x1 - x0) (by omega) (by omega), wrap_in (x := y1 - y0) (by omega) (by omega), wrap_in (x := -(x1 - x0)) (by omega) (by omega), wrap_in (x := -(y1 - y0)) (by omega) (by omega)]
  show (if ab (x1 - x0) < ab (y1 - y0) then _ else _) = _
  split
  · exact lj0 k y x y0 x0 y1 x1 hy (by omega) (by omega) (by omega) (by omega)
  · exact lj0 k x y x0 y0 x1 y1 hx (by omega) (by omega) (by omega) (by omega)

def rowV (u0 v0 u1 v1 u : Int) : Int := if u1 = u0 then v0 else v0 + (2 * (v1 - v0) * (u - u0) + (u1 - u0)) / (2 * (u1 - u0))
theorem lineW_iff (u0 v0 u1 v1 u v : Int) : lineW u0 v0 u1 v1 u v = decide (u0 ≤ u ∧ u ≤ u1 ∧ v = rowV u0 v0 u1 v1 u) := by
  unfold lineW rowV
  by_cases h : u < u0 ∨ u1 < u
  · rw [if_pos h, eq_comm, decide_eq_false_iff_not]; omega
  · rw [if_neg h]
    by_cases c : u1 = u0
    · rw [if_pos c, if_pos c, Bool.eq_iff_iff, beq_iff_eq, decide_eq_true_eq]; omega
    · rw [if_neg c, if_neg c, Bool.eq_iff_iff, beq_iff_eq, decide_eq_true_eq]
      constructor
      · intro e; exact ⟨by omega, by omega, e⟩
      · intro e; exact e.2.2
theorem row_first (u0 v0 u1 v1 : Int) (h : u0 ≤ u1) : rowV u0 v0 u1 v1 u0 = v0 := by
  unfold rowV
  split
  · rfl
  · rw [show u0 - u0 = 0 by omega, Int.mul_zero, Int.zero_add]
    have : (u1 - u0) / (2 * (u1 - u0)) = 0 := Int.ediv_eq_zero_of_lt (by omega) (by omega)
    omega
theorem row_last (u0 v0 u1 v1 : Int) (h : u0 ≤ u1) (hv : u1 = u0 → v1 = v0) : rowV u0 v0 u1 v1 u1 = v1 := by
  unfold rowV
  split
  · rename_i e; exact (hv e).symm
  · have e : 2 * (v1 - v0) * (u1 - u0) + (u1 - u0) = (u1 - u0) + (v1 - v0) * (2 * (u1 - u0)) := by rw [Int.mul_comm 2 (v1 - v0), Int.mul_assoc]; omega
    rw [e, Int.add_mul_ediv_right _ _ (by omega)]
    have : (u1 - u0) / (2 * (u1 - u0)) = 0 := Int.ediv_eq_zero_of_lt (by omega) (by omega)
    omega
theorem row_between (u0 v0 u1 v1 u : Int) (h0 : u0 ≤ u) (h1 : u ≤ u1) : (v0 ≤ rowV u0 v0 u1 v1 u ∨ v1 ≤ rowV u0 v0 u1 v1 u) ∧ (rowV u0 v0 u1 v1 u ≤ v0 ∨ rowV u0 v0 u1 v1 u ≤ v1) := by
  unfold rowV
  split
  · omega
  · have hd : 0 < 2 * (u1 - u0) := by omega
    generalize hq : (2 * (v1 - v0) * (u - u0) + (u1 - u0)) / (2 * (u1 - u0)) = q
    have hm : 2 * (v1 - v0) * (u - u0) = 2 * ((v1 - v0) * (u - u0)) := Int.mul_assoc _ _ _
    rcases Int.le_total v0 v1 with hv | hv
    · have a1 : 0 ≤ (v1 - v0) * (u - u0) := Int.mul_nonneg (by omega) (by omega)
      have a2 : (v1 - v0) * (u - u0) ≤ (v1 - v0) * (u1 - u0) := Int.mul_le_mul_of_nonneg_left (by omega) (by omega)
      have b1 : 0 ≤ q := by rw [← hq]; exact Int.ediv_nonneg (by omega) (by omega)
      have b2 : q < (v1 - v0) + 1 := by
        rw [← hq, Int.ediv_lt_iff_lt_mul hd, Int.add_mul]
        have : (v1 - v0) * (2 * (u1 - u0)) = 2 * ((v1 - v0) * (u1 - u0)) := by rw [Int.mul_left_comm]
        omega
      omega
    · have a1 : 0 ≤ (v0 - v1) * (u - u0) := Int.mul_nonneg (by omega) (by omega)
      have a2 : (v0 - v1) * (u - u0) ≤ (v0 - v1) * (u1 - u0) := Int.mul_le_mul_of_nonneg_left (by omega) (by omega)
      have n1 : (v1 - v0) * (u - u0) = -((v0 - v1) * (u - u0)) := by rw [← Int.neg_mul]; congr 1; omega
      have n2 : (v1 - v0) * (u1 - u0) = -((v0 - v1) * (u1 - u0)) := by rw [← Int.neg_mul]; congr 1; omega
      have b1 : q < 1 := by
        rw [← hq, Int.ediv_lt_iff_lt_mul hd]
        omega
      have b2 : v1 - v0 ≤ q := by
        rw [← hq, Int.le_ediv_iff_mul_le hd]
        have : (v1 - v0) * (2 * (u1 - u0)) = 2 * ((v1 - v0) * (u1 - u0)) := by rw [Int.mul_left_comm]
        omega
      omega

theorem ab_eq (d : Int) : (0 ≤ d ∧ ab d = d) ∨ (d < 0 ∧ ab d = -d) := by unfold ab mx; split <;> omega

/-- A line's pixels, told by its long side. -/
theorem line_facts (u0 v0 u1 v1 : Int) (hd : ab (v1 - v0) ≤ ab (u1 - u0)) : ∃ (lo hi : Int) (φ : Int → Int), lo ≤ hi ∧ (lo = u0 ∧ hi = u1 ∨ lo = u1 ∧ hi = u0) ∧ hi - lo = ab (u1 - u0) ∧
    (∀ u, lo ≤ u → u ≤ hi → (v0 ≤ φ u ∨ v1 ≤ φ u) ∧ (φ u ≤ v0 ∨ φ u ≤ v1)) ∧ φ u0 = v0 ∧ φ u1 = v1 ∧ ∀ u v, lineV u0 v0 u1 v1 u v = decide (lo ≤ u ∧ u ≤ hi ∧ v = φ u) := by
  have q1 := ab_eq (u1 - u0)
  have q2 := ab_eq (v1 - v0)
  by_cases c : u1 < u0
  · refine ⟨u1, u0, rowV u1 v1 u0 v0, by omega, by omega, by omega, fun u a b => ?_, row_last _ _ _ _ (by omega) (by omega), row_first _ _ _ _ (by omega), fun u v => ?_⟩
    · have := row_between u1 v1 u0 v0 u a b; omega
    · unfold lineV; rw [if_pos c]; exact lineW_iff ..
  · refine ⟨u0, u1, rowV u0 v0 u1 v1, by omega, by omega, by omega, fun u a b => row_between u0 v0 u1 v1 u a b, row_first _ _ _ _ (by omega), row_last _ _ _ _ (by omega) (by omega), fun u v => ?_⟩
    unfold lineV; rw [if_neg c]; exact lineW_iff ..


/-- A line's pixels lie between its ends. -/
theorem onV_in (x0 y0 x1 y1 x y : Int) (h : onV x0 y0 x1 y1 x y = true) : ((x0 ≤ x ∨ x1 ≤ x) ∧ (x ≤ x0 ∨ x ≤ x1)) ∧ (y0 ≤ y ∨ y1 ≤ y) ∧ (y ≤ y0 ∨ y ≤ y1) := by
  unfold onV at h
  split at h
  · rename_i c
    obtain ⟨lo, hi, φ, k0, k1, k2, k3, k4, k5, k6⟩ := line_facts y0 x0 y1 x1 (by omega)
    rw [k6, decide_eq_true_eq] at h
    obtain ⟨a, b, rfl⟩ := h
    have := k3 y a b
    omega
  · rename_i c
    obtain ⟨lo, hi, φ, k0, k1, k2, k3, k4, k5, k6⟩ := line_facts x0 y0 x1 y1 (by omega)
    rw [k6, decide_eq_true_eq] at h
    obtain ⟨a, b, rfl⟩ := h
    have := k3 x a b
    omega

/-! ### A triangle -/
theorem mn_le3 (a b c p : Int) (h : ∀ m : Int, m ≤ a → m ≤ b → m ≤ c → m ≤ p) : mn (mn (mn a a) b) c ≤ p := by
  refine h _ ?_ ?_ ?_ <;> (unfold mn; (repeat' split) <;> omega)
theorem le_mx3 (a b c p : Int) (h : ∀ m : Int, a ≤ m → b ≤ m → c ≤ m → p ≤ m) : p ≤ mx (mx (mx a a) b) c := by
  refine h _ ?_ ?_ ?_ <;> (unfold mx; (repeat' split) <;> omega)
theorem bary (ax ay bx by' cx cy px py : Int) : sideV ax ay bx by' cx cy * px = sideV bx by' cx cy px py * ax + sideV cx cy ax ay px py * bx + sideV ax ay bx by' px py * cx := by
  unfold sideV; grind
theorem bary' (ax ay bx by' cx cy px py : Int) : sideV ax ay bx by' cx cy * py = sideV bx by' cx cy px py * ay + sideV cx cy ax ay px py * by' + sideV ax ay bx by' px py * cy := by
  unfold sideV; grind
theorem bary1 (ax ay bx by' cx cy px py : Int) : sideV ax ay bx by' cx cy = sideV bx by' cx cy px py + sideV cx cy ax ay px py + sideV ax ay bx by' px py := by
  unfold sideV; grind
theorem conv_le {A s1 s2 s3 a b c p m : Int} (hA : 0 < A) (e1 : A = s1 + s2 + s3) (e : A * p = s1 * a + s2 * b + s3 * c) (h1 : 0 ≤ s1) (h2 : 0 ≤ s2) (h3 : 0 ≤ s3) (ha : a ≤ m) (hb : b ≤ m) (hc : c ≤ m) : p ≤ m := by
  have k1 := Int.mul_nonneg h1 (show 0 ≤ m - a by omega)
  have k2 := Int.mul_nonneg h2 (show 0 ≤ m - b by omega)
  have k3 := Int.mul_nonneg h3 (show 0 ≤ m - c by omega)
  have k : A * (m - p) = s1 * (m - a) + s2 * (m - b) + s3 * (m - c) := by grind
  rcases Int.lt_or_le m p with h | h
  · have := Int.mul_lt_mul_of_pos_left (show m - p < 0 by omega) hA
    omega
  · exact h
theorem conv_ge {A s1 s2 s3 a b c p m : Int} (hA : 0 < A) (e1 : A = s1 + s2 + s3) (e : A * p = s1 * a + s2 * b + s3 * c) (h1 : 0 ≤ s1) (h2 : 0 ≤ s2) (h3 : 0 ≤ s3) (ha : m ≤ a) (hb : m ≤ b) (hc : m ≤ c) : m ≤ p := by
  have := conv_le (p := -p) (a := -a) (b := -b) (c := -c) (m := -m) hA e1 (by grind) h1 h2 h3 (by omega) (by omega) (by omega)
  omega
theorem edge0 {a b p : Int × Int} (h : edgeV a b p = true) : 0 ≤ sideV a.1 a.2 b.1 b.2 p.1 p.2 := by
  unfold edgeV at h
  rw [Bool.and_eq_true, decide_eq_true_eq] at h
  omega
theorem cov_in {a b c p : Int × Int} (hA : 0 < sideV a.1 a.2 b.1 b.2 c.1 c.2) (h : covV a b c p = true) :
    (∀ m, m ≤ a.1 → m ≤ b.1 → m ≤ c.1 → m ≤ p.1) ∧ (∀ m, a.1 ≤ m → b.1 ≤ m → c.1 ≤ m → p.1 ≤ m) ∧ (∀ m, m ≤ a.2 → m ≤ b.2 → m ≤ c.2 → m ≤ p.2) ∧ (∀ m, a.2 ≤ m → b.2 ≤ m → c.2 ≤ m → p.2 ≤ m) := by
  unfold covV at h
  rw [Bool.and_eq_true, Bool.and_eq_true] at h
  have s1 := edge0 h.2.1
  have s2 := edge0 h.2.2
  have s3 := edge0 h.1
  have e1 := bary1 a.1 a.2 b.1 b.2 c.1 c.2 p.1 p.2
  have ex := bary a.1 a.2 b.1 b.2 c.1 c.2 p.1 p.2
  have ey := bary' a.1 a.2 b.1 b.2 c.1 c.2 p.1 p.2
  exact ⟨fun m => conv_ge hA e1 ex s1 s2 s3, fun m => conv_le hA e1 ex s1 s2 s3, fun m => conv_ge hA e1 ey s1 s2 s3, fun m => conv_le hA e1 ey s1 s2 s3⟩
theorem side_swap (ax ay bx by' cx cy : Int) : sideV ax ay cx cy bx by' = -sideV ax ay bx by' cx cy := by unfold sideV; grind
theorem triV_in (a b c : V) (x y : Int) (h : triV a b c x y = true) :
    (∀ m, m ≤ a.f0 → m ≤ b.f0 → m ≤ c.f0 → m ≤ x * 65536 + 32768) ∧ (∀ m, a.f0 ≤ m → b.f0 ≤ m → c.f0 ≤ m → x * 65536 + 32768 ≤ m) ∧ (∀ m, m ≤ a.f1 → m ≤ b.f1 → m ≤ c.f1 → m ≤ y * 65536 + 32768) ∧ (∀ m, a.f1 ≤ m → b.f1 ≤ m → c.f1 ≤ m → y * 65536 + 32768 ≤ m) := by
  unfold triV at h
  split at h
  · cases h
  · split at h
    · have q := side_swap a.f0 a.f1 b.f0 b.f1 c.f0 c.f1
      obtain ⟨h1, h2, h3, h4⟩ := cov_in (a := (a.f0, a.f1)) (b := (c.f0, c.f1)) (c := (b.f0, b.f1)) (by simp only; omega) h
      exact ⟨fun m a b c => h1 m a c b, fun m a b c => h2 m a c b, fun m a b c => h3 m a c b, fun m a b c => h4 m a c b⟩
    · exact cov_in (a := (a.f0, a.f1)) (b := (b.f0, b.f1)) (c := (c.f0, c.f1)) (by simp only; omega) h

/-- What a right thing covers lies in its box. -/
theorem seen_hit (t : Th) (x y : Int) (h : faultV t = 0) : seenV t x y = hitV t x y := by
  unfold seenV
  cases hh : hitV t x y
  · rw [Bool.and_false]
  · rw [Bool.and_true]
    unfold inB
    rw [decide_eq_true_eq]
    rcases fault0 h with ⟨e, a, b, e3, ha, hb⟩ | ⟨e, a, b, c, e3, ha, hb, hc⟩
    · unfold hitV at hh
      rw [e3] at hh ⊢
      have := onV_in _ _ _ _ _ _ hh
      unfold boxV mn mx
      simp only
      refine ⟨?_, ?_, ?_, ?_⟩ <;> ((repeat' split) <;> omega)
    · unfold hitV at hh
      rw [e3] at hh ⊢
      obtain ⟨h1, h2, h3, h4⟩ := triV_in a b c x y hh
      have q1 := mn_le3 a.f0 b.f0 c.f0 _ h1
      have q2 := le_mx3 a.f0 b.f0 c.f0 _ h2
      have q3 := mn_le3 a.f1 b.f1 c.f1 _ h3
      have q4 := le_mx3 a.f1 b.f1 c.f1 _ h4
      unfold boxV
      simp only
      refine ⟨?_, ?_, ?_, ?_⟩ <;> omega

theorem rside_eq (ax ay bx b' cx cy : Int) (h1 : okQ ax) (h2 : okQ ay) (h3 : okQ bx) (h4 : okQ b') (h5 : okQ cx) (h6 : okQ cy) : tourref5_Side.f ax ay bx b' cx cy = some (sideV ax ay bx b' cx cy) := by
  unfold okQ at *
  unfold tourref5_Side.f sideV
  have m1 := mul_bd (a := bx - ax) (b := cy - ay) (A := 280000000) (B := 280000000) (by omega) (by omega)
  have m2 := mul_bd (a := cx - ax) (b := b' - ay) (A := 280000000) (B := 280000000) (by omega) (by omega)
  rw [wrap_in (x := bx - ax) (by omega) (by omega), wrap_in (x := cy - ay) (by omega) (by omega), wrap_in (x := b' - ay) (by omega) (by omega), wrap_in (x := cx - ax) (by omega) (by omega), wrap_in (x := (bx - ax) * (cy - ay)) (by omega) (by omega), wrap_in (x := (cx - ax) * (b' - ay)) (by omega) (by omega), wrap_in (by omega) (by omega), Int.mul_comm (cx - ax)]
theorem cl0 (k : Nat) (i : Int) (hi : i = 0 ∨ i = 1 ∨ i = 2) (a b c p : Int × Int) (q : okQ a.1 ∧ okQ a.2 ∧ okQ b.1 ∧ okQ b.2 ∧ okQ p.1 ∧ okQ p.2) (r : Bool)
    (hr : (if i < 2 then tourref5_Covered.l0 k (i + 1) b.1 b.2 c.1 c.2 a.1 a.2 p.1 p.2 else tourref5_Covered.l0 k (i + 1) a.1 a.2 b.1 b.2 c.1 c.2 p.1 p.2) = some r) :
    tourref5_Covered.l0 (k + 2) i a.1 a.2 b.1 b.2 c.1 c.2 p.1 p.2 = some (edgeV a b p && r) := by
  rw [tourref5_Covered.l0, if_pos (by omega), rside_eq _ _ _ _ _ _ q.1 q.2.1 q.2.2.1 q.2.2.2.1 q.2.2.2.2.1 q.2.2.2.2.2]
  have j : ∀ z : Bool, tourref5_Covered.j2 (k + 1) i i z a.1 a.2 b.1 b.2 c.1 c.2 p.1 p.2 = some (!z && r) := by
    intro z
    rw [tourref5_Covered.j2, wrap_in (x := i + 1) (by omega) (by omega)]
    cases z
    · rw [if_neg (by simp), hr]; simp
    · rw [if_pos rfl]; simp
  simp only [Option.bind_some, j]
  unfold edgeV ownsV
  generalize sideV a.1 a.2 b.1 b.2 p.1 p.2 = m
  by_cases c1 : m < 0
  · rw [if_pos c1]; simp [c1]
  · rw [if_neg c1]
    by_cases c2 : m = 0
    · rw [if_pos c2]
      subst c2
      by_cases c3 : b.2 < a.2
      · rw [if_pos c3]; simp [c3]
      · rw [if_neg c3]
        by_cases c4 : b.2 = a.2
        · rw [if_pos c4]; simp [c4]
        · rw [if_neg c4]; simp [c3, c4]
    · rw [if_neg c2]; simp [c1, c2]
theorem cl_all (k : Nat) (a b c p : Int × Int) (ha : okQ a.1 ∧ okQ a.2) (hb : okQ b.1 ∧ okQ b.2) (hc : okQ c.1 ∧ okQ c.2) (hp : okQ p.1 ∧ okQ p.2) :
    tourref5_Covered.l0 (k + 7) 0 a.1 a.2 b.1 b.2 c.1 c.2 p.1 p.2 = some (covV a b c p) := by
  refine cl0 (k + 5) 0 (by omega) a b c p ⟨ha.1, ha.2, hb.1, hb.2, hp.1, hp.2⟩ _ ?_
  rw [if_pos (by omega)]
  refine cl0 (k + 3) (0 + 1) (by omega) b c a p ⟨hb.1, hb.2, hc.1, hc.2, hp.1, hp.2⟩ _ ?_
  rw [if_pos (by omega), show edgeV c a p = (edgeV c a p && true) by simp]
  refine cl0 (k + 1) (0 + 1 + 1) (by omega) c a b p ⟨hc.1, hc.2, ha.1, ha.2, hp.1, hp.2⟩ _ ?_
  rw [if_neg (by omega), tourref5_Covered.l0, if_neg (by omega)]

theorem covered_ev (t : Th) (x y : Int) (h : faultV t = 0) (hx : okP x) (hy : okP y) : Ev (fun k => tourref5_Covered.f k t.f0 t.f1 t.f2 t.f3 x y) (hitV t x y) := by
  rcases fault0 h with ⟨e, a, b, e3, ha, hb⟩ | ⟨e, a, b, c, e3, ha, hb, hc⟩
  · refine ev_steps 5 fun k => ?_
    unfold tourref5_Covered.f
    rw [if_pos e, e3, if_pos (by simp), if_pos (by simp), rd0, rd1, lined_eq k a b x y ha hb hx hy]
    unfold hitV
    rw [e3]
    rfl
  · refine ev_steps 8 fun k => ?_
    unfold tourref5_Covered.f
    have ha' := ha; have hb' := hb; have hc' := hc
    unfold okV at ha hb hc
    unfold okP at hx hy
    rw [if_neg (by omega), e3, if_pos (by simp), if_pos (by simp), if_pos (by simp), rd0, rd1, rd2]
    have qa : okQ a.f0 ∧ okQ a.f1 := by unfold okQ; omega
    have qb : okQ b.f0 ∧ okQ b.f1 := by unfold okQ; omega
    have qc : okQ c.f0 ∧ okQ c.f1 := by unfold okQ; omega
    have qp : okQ (mid x y).1 ∧ okQ (mid x y).2 := by unfold okQ mid; simp only; omega
    rw [rside_eq _ _ _ _ _ _ qa.1 qa.2 qb.1 qb.2 qc.1 qc.2]
    have hj : ∀ b c : V, okQ b.f0 ∧ okQ b.f1 → okQ c.f0 ∧ okQ c.f1 → tourref5_Covered.j0 (k + 8) x y a.f0 a.f1 b.f0 b.f1 c.f0 c.f1 = some (if sideV a.f0 a.f1 b.f0 b.f1 c.f0 c.f1 = 0 then false else covV (a.f0, a.f1) (b.f0, b.f1) (c.f0, c.f1) (mid x y)) := by
      intro b c qb qc
      rw [tourref5_Covered.j0, rside_eq _ _ _ _ _ _ qa.1 qa.2 qb.1 qb.2 qc.1 qc.2]
      simp only [Option.bind_some]
      have e1 : wrap64 (wrap64 (65536 * x) + 32768) = (mid x y).1 := by rw [wrap_in (x := 65536 * x) (by omega) (by omega), wrap_in (by omega) (by omega)]; unfold mid; simp only; omega
      have e2 : wrap64 (wrap64 (65536 * y) + 32768) = (mid x y).2 := by rw [wrap_in (x := 65536 * y) (by omega) (by omega), wrap_in (by omega) (by omega)]; unfold mid; simp only; omega
      rw [e1, e2]
      split
      · rfl
      · exact cl_all k (a.f0, a.f1) (b.f0, b.f1) (c.f0, c.f1) (mid x y) qa qb qc qp
    simp only [Option.bind_some]
    unfold hitV
    rw [e3]
    simp only
    unfold triV
    have sw := side_swap a.f0 a.f1 b.f0 b.f1 c.f0 c.f1
    split
    · rename_i c1
      rw [hj c b qc qb, if_neg (by omega), if_neg (by omega)]
    · rename_i c1
      rw [hj b c qb qc]

/-! ### Pixels -/
/-- The first m pixels of an area. -/
def pre (X Y : Int) (W : Nat) (m : Nat) (g : Int → Int → Int) : List Int := (List.range m).map fun i => g (X + ((i % W : Nat) : Int)) (Y + ((i / W : Nat) : Int))
theorem pre_length (X Y : Int) (W m : Nat) (g : Int → Int → Int) : (pre X Y W m g).length = m := by simp [pre]
theorem pre_more (X Y : Int) (W r c : Nat) (hc : c < W) (g : Int → Int → Int) : pre X Y W (r * W + (c + 1)) g = pre X Y W (r * W + c) g ++ [g (X + c) (Y + r)] := by
  unfold pre
  rw [← Nat.add_assoc, List.range_succ, List.map_append, List.map_singleton, (idx_mod W r c hc).1, (idx_mod W r c hc).2]

theorem px2 (L : List Th) (hL : L.length ≤ 400) (hok : ∀ t ∈ L, faultV t = 0) (X Y W H : Int) (out : List Int) (ho : out.length < 17592186044416) (x y : Int) (hx : okP x) (hy : okP y) (hx' : okP (x + 1)) (R : List Int) : ∀ n i : Nat, i + n = L.length → ∀ c : Int,
    Ev (fun k => tourref5_Pixels.l1 k L (out ++ [colour (L.drop i) x y c]) y (x + 1) X Y W H) R → Ev (fun k => tourref5_Pixels.l2 k L out y x c L L.length i X Y W H) R := by
  intro n
  induction n with
  | zero =>
    intro i hi c he
    unfold okP at hx'
    refine Ev.step (fun k => by rw [tourref5_Pixels.l2, if_neg (by omega), if_pos ho, wrap_in (x := x + 1) (by omega) (by omega)]) ?_
    rw [List.drop_eq_nil_of_le (by omega)] at he
    exact he
  | succ n ih =>
    intro i hi c he
    refine Ev.step (fun k => by rw [tourref5_Pixels.l2, if_pos (by omega), if_pos (by omega), if_pos (by omega), wrap_in (x := (i : Int) + 1) (by omega) (by omega)]) ?_
    rw [rdT L i (by omega)] at he
    have hmem : rd_T33 L i ∈ L := by
      have : rd_T33 L i = L[i]'(by omega) := by simp [rd_T33, show i < L.length by omega]
      rw [this]
      exact List.getElem_mem _
    generalize rd_T33 L i = t at *
    refine Ev.bind (covered_ev t x y (hok t hmem) hx hy) ?_
    unfold colour at he
    rw [List.foldl_cons, seen_hit t x y (hok t hmem)] at he
    have h2 := ih (i + 1) (by omega)
    rw [show (((i + 1 : Nat) : Int)) = (i : Int) + 1 by omega] at h2
    cases hh : hitV t x y
    · rw [hh] at he
      exact h2 _ he
    · rw [hh] at he
      exact h2 _ he

theorem px1 (L : List Th) (hL : L.length ≤ 400) (hok : ∀ t ∈ L, faultV t = 0) (X Y : Int) (W H : Nat) (hA : okA X Y W H) (r : Nat) (hr : r < H) (R : List Int) : ∀ n c : Nat, c + n = W →
    Ev (fun k => tourref5_Pixels.l0 k L (pre X Y W (r * W + W) fun x y => colour L x y 0) (Y + r + 1) X Y W H) R →
    Ev (fun k => tourref5_Pixels.l1 k L (pre X Y W (r * W + c) fun x y => colour L x y 0) (Y + r) (X + c) X Y W H) R := by
  have hA' := hA
  unfold okA at hA
  have w1 : wrap64 (X + (W : Int)) = X + W := wrap_in (by omega) (by omega)
  have w2 : wrap64 (Y + (r : Int) + 1) = Y + r + 1 := wrap_in (by omega) (by omega)
  intro n
  induction n with
  | zero =>
    intro c hc he
    obtain rfl : c = W := by omega
    refine Ev.step (fun k => by rw [tourref5_Pixels.l1, w1, if_neg (by omega), w2]) ?_
    exact he
  | succ n ih =>
    intro c hc he
    have hlt := idx_lt W H r c (by omega) hr
    have hWH := WH_le hA'
    refine Ev.step (fun k => by rw [tourref5_Pixels.l1, w1, if_pos (by omega)]) ?_
    refine px2 L hL hok X Y W H _ (by rw [pre_length]; omega) (X + c) (Y + r) (by unfold okP; omega) (by unfold okP; omega) (by unfold okP; omega) R L.length 0 (by omega) 0 ?_
    have := ih (c + 1) (by omega) he
    rw [pre_more X Y W r c (by omega), show X + (((c + 1 : Nat) : Int)) = X + c + 1 by omega] at this
    exact this

theorem px0 (L : List Th) (hL : L.length ≤ 400) (hok : ∀ t ∈ L, faultV t = 0) (X Y : Int) (W H : Nat) (hA : okA X Y W H) : ∀ n r : Nat, r + n = H →
    Ev (fun k => tourref5_Pixels.l0 k L (pre X Y W (r * W) fun x y => colour L x y 0) (Y + r) X Y W H) (grid X Y W H fun x y => colour L x y 0) := by
  have hA' := hA
  unfold okA at hA
  have w1 : wrap64 (Y + (H : Int)) = Y + H := wrap_in (by omega) (by omega)
  intro n
  induction n with
  | zero =>
    intro r hr
    obtain rfl : r = H := by omega
    refine Ev.step (f := fun _ => some (pre X Y W (r * W) fun x y => colour L x y 0)) (fun k => by rw [tourref5_Pixels.l0, w1, if_neg (by omega)]) ?_
    have : (pre X Y W (r * W) fun x y => colour L x y 0) = grid X Y W r fun x y => colour L x y 0 := by unfold pre grid; rw [Nat.mul_comm]
    rw [this]
    exact Ev.now _
  | succ n ih =>
    intro r hr
    refine Ev.step (fun k => by rw [tourref5_Pixels.l0, w1, if_pos (by omega)]) ?_
    have h2 := ih (r + 1) (by omega)
    rw [show (r + 1) * W = r * W + W from Nat.succ_mul r W, show Y + (((r + 1 : Nat) : Int)) = Y + r + 1 by omega] at h2
    have := px1 L hL hok X Y W H hA' r (by omega) _ W 0 (by omega) h2
    rw [show X + (((0 : Nat) : Int)) = X by omega, Nat.add_zero] at this
    exact this

/-- The reference's picture of right things. -/
theorem pixels_ev (L : List Th) (hL : L.length ≤ 400) (hok : ∀ t ∈ L, faultV t = 0) (X Y : Int) (W H : Nat) (hA : okA X Y W H) : Ev (fun k => tourref5_Pixels.f k L X Y W H) (grid X Y W H fun x y => colour L x y 0) := by
  have := px0 L hL hok X Y W H hA H 0 (by omega)
  rw [Nat.zero_mul, show Y + (((0 : Nat) : Int)) = Y by omega] at this
  exact this

/-! ### Pictures of any things -/
def firstF (e : Int) (L : List Th) : Int := L.foldl (fun e t => if e = 0 then faultV t else e) e
theorem firstF_ne (e : Int) (he : e ≠ 0) (L : List Th) : firstF e L = e := by
  unfold firstF
  induction L with
  | nil => rfl
  | cons t L ih => rw [List.foldl_cons, if_neg he]; exact ih
theorem firstF_cons (t : Th) (L : List Th) : firstF 0 (t :: L) = if faultV t = 0 then firstF 0 L else faultV t := by
  unfold firstF
  rw [List.foldl_cons, if_pos rfl]
  split
  · rename_i h; rw [h]
  · rename_i h; exact firstF_ne _ h L
theorem firstF_zero (L : List Th) (h : firstF 0 L = 0) : ∀ t ∈ L, faultV t = 0 := by
  induction L with
  | nil => intro t ht; cases ht
  | cons u L ih =>
    rw [firstF_cons] at h
    split at h
    · rename_i hu
      intro t ht
      rcases List.mem_cons.mp ht with rfl | ht
      · exact hu
      · exact ih h t ht
    · rename_i hu; exact absurd h hu
def wantV (L : List Th) (X Y W H : Int) : Int :=
  if firstF (if (L.length : Int) > 400 then 2 else 0) L = 0 then areaV X Y W H else firstF (if (L.length : Int) > 400 then 2 else 0) L

theorem bad_l0 (L : List Th) (hL : L.length ≤ 400) (hlen : ∀ t ∈ L, t.f3.length ≤ 9223372036854775807) (X Y W H : Int) : ∀ n i : Nat, i + n = L.length → (if firstF 0 (L.drop i) = 0 then areaV X Y W H else firstF 0 (L.drop i)) ≠ 0 →
    Ev (fun k => raster_Picture.l0 k L L L.length i X Y W H) (([] : List Int), if firstF 0 (L.drop i) = 0 then areaV X Y W H else firstF 0 (L.drop i)) := by
  intro n
  induction n with
  | zero =>
    intro i hi h
    rw [List.drop_eq_nil_of_le (by omega)] at h ⊢
    simp only [firstF, List.foldl_nil, if_true] at h ⊢
    refine Ev.step (fun k => by rw [raster_Picture.l0, if_neg (by omega)]) ?_
    refine Ev.bind (ac_ev X Y W H) ?_
    simp only [if_neg h]
    exact Ev.now _
  | succ n ih =>
    intro i hi
    rw [rdT L i (by omega)]
    have hmem : rd_T33 L i ∈ L := by
      have : rd_T33 L i = L[i]'(by omega) := by simp [rd_T33, show i < L.length by omega]
      rw [this]
      exact List.getElem_mem _
    intro h
    refine Ev.step (fun k => by rw [raster_Picture.l0, if_pos (by omega), if_pos (by omega), if_pos (by omega), wrap_in (x := (i : Int) + 1) (by omega) (by omega)]) ?_
    generalize rd_T33 L i = t at *
    refine Ev.bind (check_ev t (hlen t hmem)) ?_
    rw [firstF_cons] at h ⊢
    by_cases ht : faultV t = 0
    · simp only [if_pos ht] at h ⊢
      have := ih (i + 1) (by omega) h
      rwa [show (((i + 1 : Nat) : Int)) = (i : Int) + 1 by omega] at this
    · simp only [if_neg ht]
      exact Ev.now _

theorem picture_all (L : List Th) (hlen : ∀ t ∈ L, t.f3.length ≤ 9223372036854775807) (X Y W H : Int) :
    (wantV L X Y W H = 0 → ∃ w h : Nat, W = w ∧ H = h ∧ okA X Y w h ∧ L.length ≤ 400 ∧ (∀ t ∈ L, faultV t = 0) ∧ Ev (fun k => raster_Picture.f k L X Y W H) (grid X Y w h fun x y => colour L x y 0, 0)) ∧
    (wantV L X Y W H ≠ 0 → Ev (fun k => raster_Picture.f k L X Y W H) (([] : List Int), wantV L X Y W H)) := by
  unfold wantV
  by_cases hL : (L.length : Int) > 400
  · rw [if_pos hL, firstF_ne 2 (by omega), if_neg (by omega)]
    refine ⟨fun h => absurd h (by omega), fun _ => ?_⟩
    unfold raster_Picture.f
    simp only [if_pos hL]
    exact Ev.now _
  · rw [if_neg hL]
    have b := bad_l0 L (by omega) hlen X Y W H L.length 0 (by omega)
    rw [List.drop_zero] at b
    refine ⟨fun h => ?_, fun h => ?_⟩
    · by_cases h1 : firstF 0 L = 0
      · rw [if_pos h1] at h
        obtain ⟨w, h', rfl, rfl, hA⟩ := area0 h
        exact ⟨w, h', rfl, rfl, hA, by omega, firstF_zero L h1, picture_ev X Y w h' hA L (by omega) (firstF_zero L h1)⟩
      · rw [if_neg h1] at h; exact absurd h h1
    · unfold raster_Picture.f
      simp only [if_neg hL]
      exact b h
end Go.Proofs.Ytijochlkmkmhdaa.PixelsRasterMade
