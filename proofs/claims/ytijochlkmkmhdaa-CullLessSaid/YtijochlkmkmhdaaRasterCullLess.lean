/- Pictures: what the printed functions of raster compute, told plainly. -/
import Derived.Test.YtijochlkmkmhdaaPCullLessx
namespace Go.Proofs.Ytijochlkmkmhdaa.RasterCullLess
open Go.RowKit Go.Proofs.YtijochlkmkmhdaaW.PrintWords Go.Proofs.YtijochlkmkmhdaaW.PrintLast Go.Proofs.YtijochlkmkmhdaaW.PrintMore Go.Proofs.Ytijochlkmkmhdaa.PCullLess
set_option linter.unusedVariables false
set_option linter.unusedSimpArgs false

abbrev V := S46
abbrev Th := S33

theorem wrap_in {x : Int} (h0 : -9223372036854775808 ≤ x) (h1 : x ≤ 9223372036854775807) : wrap64 x = x := by
  unfold wrap64; omega
theorem ev_all {α : Type} {g : Nat → Option α} {r : α} (h : ∀ k, g k = some r) : Ev g r := ⟨0, fun k _ => h k⟩
theorem ev_steps {α : Type} {g : Nat → Option α} {r : α} (n : Nat) (h : ∀ k, g (k + n) = some r) : Ev g r := ⟨n, fun k hk => by rw [show k = (k - n) + n by omega]; exact h _⟩

theorem mul_bd {a b A B : Int} (ha : -A ≤ a ∧ a ≤ A) (hb : -B ≤ b ∧ b ≤ B) : -(A * B) ≤ a * b ∧ a * b ≤ A * B := by
  have h1 : a.natAbs ≤ A.natAbs := by omega
  have h2 : b.natAbs ≤ B.natAbs := by omega
  have h3 : (a * b).natAbs ≤ (A * B).natAbs := by rw [Int.natAbs_mul, Int.natAbs_mul]; exact Nat.mul_le_mul h1 h2
  have h4 : 0 ≤ A * B := Int.mul_nonneg (by omega) (by omega)
  omega

theorem equal_ev (l : List Int) (hl : l.length < 4611686018427387904) : Ev (fun k => slices_Equal_int_int.f k l l) true := by
  have key : ∀ n i : Nat, i + n = l.length → Ev (fun k => slices_Equal_int_int.l0 k l l l.length i) true := by
    intro n
    induction n with
    | zero =>
      intro i hi
      exact Ev.step (f := fun _ => some true) (fun k => by rw [slices_Equal_int_int.l0, if_neg (by omega)]) (Ev.now _)
    | succ n ih =>
      intro i hi
      refine Ev.step (fun k => by rw [slices_Equal_int_int.l0, if_pos (by omega), if_pos (by omega), if_pos (by omega), if_pos (by omega), if_pos rfl, wrap_in (x := (i : Int) + 1) (by omega) (by omega)]) ?_
      have := ih (i + 1) (by omega)
      rwa [show (((i + 1 : Nat) : Int)) = (i : Int) + 1 by omega] at this
  unfold slices_Equal_int_int.f
  simp only [if_true]
  exact key l.length 0 (by omega)

theorem floor_eq (a b : Int) (hb : 0 < b) (ha : -4611686018427387904 ≤ a ∧ a ≤ 4611686018427387904) : raster_floor.f a b = some (a / b) := by
  have e1 := Int.mul_tdiv_add_tmod a b
  have e2 := Int.mul_ediv_add_emod a b
  have h1 := Int.emod_nonneg a (show b ≠ 0 by omega)
  have h2 := Int.emod_lt_of_pos a hb
  have h3 := Int.tmod_lt_of_pos a hb
  have h4 := Int.lt_tmod_of_pos a hb
  have h5 : (Int.tdiv a b).natAbs ≤ a.natAbs := by rw [Int.natAbs_tdiv]; exact Nat.div_le_self _ _
  have e3 : b * (Int.tdiv a b - a / b) = a % b - Int.tmod a b := by rw [Int.mul_sub]; omega
  have small : ∀ d e : Int, b * d = e → -b < e → e < 2 * b → d = 0 ∨ d = 1 := by
    intro d e h h6 h7
    rcases Int.lt_or_le d 0 with h8 | h8
    · have := Int.mul_le_mul_of_nonneg_left (show d ≤ -1 by omega) (show 0 ≤ b by omega)
      omega
    · rcases Int.lt_or_le 1 d with h9 | h9
      · have := Int.mul_le_mul_of_nonneg_left (show 2 ≤ d by omega) (show 0 ≤ b by omega)
        omega
      · omega
  unfold raster_floor.f
  rw [if_neg (by omega)]
  have hw : wrap64 (Int.tdiv a b) = Int.tdiv a b := wrap_in (by omega) (by omega)
  rw [hw]
  rcases small _ _ e3 (by omega) (by omega) with h | h
  · rw [h] at e3
    have h6 : Int.tmod a b = a % b := by omega
    rw [if_neg (by omega)]
    congr 1; omega
  · rw [h] at e3
    rw [if_pos (by omega), wrap_in (by omega) (by omega)]
    congr 1; omega

theorem pixel_eq (x y : Int) (hx : -1099511627776 ≤ x ∧ x ≤ 1099511627776) (hy : -1099511627776 ≤ y ∧ y ≤ 1099511627776) : raster_pixel.f x y = some (x / 65536, y / 65536) := by
  unfold raster_pixel.f
  rw [floor_eq x 65536 (by omega) (by omega), floor_eq y 65536 (by omega) (by omega)]
  rfl

/-! ### A line -/
def lineW (u0 v0 u1 v1 u v : Int) : Bool := if u < u0 ∨ u1 < u then false else if u1 = u0 then v == v0 else v == v0 + (2 * (v1 - v0) * (u - u0) + (u1 - u0)) / (2 * (u1 - u0))
def lineV (u0 v0 u1 v1 u v : Int) : Bool := if u1 < u0 then lineW u1 v1 u0 v0 u v else lineW u0 v0 u1 v1 u v
def ab (d : Int) : Int := mx d (-d)
def onV (x0 y0 x1 y1 x y : Int) : Bool := if ab (x1 - x0) < ab (y1 - y0) then lineV y0 x0 y1 x1 y x else lineV x0 y0 x1 y1 x y

theorem j2_eq (k : Nat) (u v u0 v0 u1 v1 : Int) (hu : -2000 ≤ u ∧ u ≤ 2000) (h0 : -1100 ≤ u0 ∧ u0 ≤ 1100) (h1 : -1100 ≤ u1 ∧ u1 ≤ 1100) (h2 : -1100 ≤ v0 ∧ v0 ≤ 1100) (h3 : -1100 ≤ v1 ∧ v1 ≤ 1100) (hle : u0 ≤ u1) :
    raster_on.j1 (k + 2) u v u0 v0 u1 (u1 - u0) (v1 - v0) = some (lineW u0 v0 u1 v1 u v) := by
  have hm := mul_bd (a := 2 * (v1 - v0)) (b := u - u0) (A := 4400) (B := 3100) (by omega) (by omega)
  rw [raster_on.j1]
  unfold lineW
  by_cases a : u < u0
  · rw [if_pos a, if_pos (.inl a)]
    rfl
  · rw [if_neg a]
    by_cases b : u > u1
    · rw [if_pos (.inr b), raster_on.j2]
      rw [if_pos (decide_eq_true b)]
    · rw [if_neg (show ¬ (u < u0 ∨ u1 < u) by omega)]
      rw [raster_on.j2]
      rw [if_neg (by simpa using b)]
      by_cases c : u1 = u0
      · rw [if_pos (show u1 - u0 = 0 by omega), if_pos c]
      · rw [if_neg (show ¬ u1 - u0 = 0 by omega), if_neg c]
        rw [wrap_in (x := 2 * (v1 - v0)) (by omega) (by omega), wrap_in (x := u - u0) (by omega) (by omega), wrap_in (x := 2 * (v1 - v0) * (u - u0)) (by omega) (by omega), wrap_in (x := 2 * (v1 - v0) * (u - u0) + (u1 - u0)) (by omega) (by omega), wrap_in (x := 2 * (u1 - u0)) (by omega) (by omega),
          floor_eq _ _ (by omega) (by omega)]
        have hd : (2 * (v1 - v0) * (u - u0) + (u1 - u0)) / (2 * (u1 - u0)) ≤ 100000000 ∧ -100000000 ≤ (2 * (v1 - v0) * (u - u0) + (u1 - u0)) / (2 * (u1 - u0)) := by
          have e := Int.mul_ediv_add_emod (2 * (v1 - v0) * (u - u0) + (u1 - u0)) (2 * (u1 - u0))
          have q1 := Int.emod_nonneg (2 * (v1 - v0) * (u - u0) + (u1 - u0)) (show 2 * (u1 - u0) ≠ 0 by omega)
          have q2 := Int.emod_lt_of_pos (2 * (v1 - v0) * (u - u0) + (u1 - u0)) (show 0 < 2 * (u1 - u0) by omega)
          generalize (2 * (v1 - v0) * (u - u0) + (u1 - u0)) / (2 * (u1 - u0)) = q at *
          constructor
          · rcases Int.lt_or_le 100000000 q with h | h
            · have := Int.mul_le_mul_of_nonneg_left (Int.le_of_lt h) (show 0 ≤ 2 * (u1 - u0) by omega)
              omega
            · exact h
          · rcases Int.lt_or_le q (-100000000) with h | h
            · have := Int.mul_le_mul_of_nonneg_left (Int.le_of_lt h) (show 0 ≤ 2 * (u1 - u0) by omega)
              omega
            · exact h
        show some (v == wrap64 (v0 + _)) = _
        rw [wrap_in (by omega) (by omega)]

theorem j0_eq (k : Nat) (u v u0 v0 u1 v1 : Int) (hu : -2000 ≤ u ∧ u ≤ 2000) (h0 : -1100 ≤ u0 ∧ u0 ≤ 1100) (h1 : -1100 ≤ u1 ∧ u1 ≤ 1100) (h2 : -1100 ≤ v0 ∧ v0 ≤ 1100) (h3 : -1100 ≤ v1 ∧ v1 ≤ 1100) :
    raster_on.j0 (k + 3) u v u0 v0 u1 v1 (u1 - u0) (v1 - v0) = some (lineV u0 v0 u1 v1 u v) := by
  rw [raster_on.j0]
  unfold lineV
  by_cases a : u1 < u0
  · rw [if_pos (show u1 - u0 < 0 by omega), if_pos a, wrap_in (by omega) (by omega), wrap_in (by omega) (by omega), show -(u1 - u0) = u0 - u1 by omega, show -(v1 - v0) = v0 - v1 by omega]
    exact j2_eq k u v u1 v1 u0 v0 hu h1 h0 h3 h2 (by omega)
  · rw [if_neg (show ¬ u1 - u0 < 0 by omega), if_neg a]
    exact j2_eq k u v u0 v0 u1 v1 hu h0 h1 h2 h3 (by omega)

def okV (p : V) : Prop := (-65536000 ≤ p.f0 ∧ p.f0 ≤ 65536000) ∧ -65536000 ≤ p.f1 ∧ p.f1 ≤ 65536000
def okP (x : Int) : Prop := -2000 ≤ x ∧ x ≤ 2000

theorem on_eq (k : Nat) (a b : V) (x y : Int) (ha : okV a) (hb : okV b) (hx : okP x) (hy : okP y) :
    raster_on.f (k + 3) a.f0 a.f1 b.f0 b.f1 x y = some (onV (a.f0 / 65536) (a.f1 / 65536) (b.f0 / 65536) (b.f1 / 65536) x y) := by
  unfold okV at ha hb
  unfold okP at hx hy
  unfold raster_on.f onV
  rw [pixel_eq a.f0 a.f1 (by omega) (by omega), pixel_eq b.f0 b.f1 (by omega) (by omega)]
  show (if _ then _ else _) = _
  have h1 : -1000 ≤ a.f0 / 65536 ∧ a.f0 / 65536 ≤ 1000 := by omega
  have h2 : -1000 ≤ a.f1 / 65536 ∧ a.f1 / 65536 ≤ 1000 := by omega
  have h3 : -1000 ≤ b.f0 / 65536 ∧ b.f0 / 65536 ≤ 1000 := by omega
  have h4 : -1000 ≤ b.f1 / 65536 ∧ b.f1 / 65536 ≤ 1000 := by omega
  generalize a.f0 / 65536 = x0 at *
  generalize a.f1 / 65536 = y0 at *
  generalize b.f0 / 65536 = x1 at *
  generalize b.f1 / 65536 = y1 at *
  simp only
  rw [wrap_in (x := x1 - x0) (by omega) (by omega), wrap_in (x := y1 - y0) (by omega) (by omega), wrap_in (x := -(x1 - x0)) (by omega) (by omega), wrap_in (x := -(y1 - y0)) (by omega) (by omega)]
  show (if ab (x1 - x0) < ab (y1 - y0) then _ else _) = _
  split
  · exact j0_eq k y x y0 x0 y1 x1 hy (by omega) (by omega) (by omega) (by omega)
  · exact j0_eq k x y x0 y0 x1 y1 hx (by omega) (by omega) (by omega) (by omega)

/-! ### A triangle -/
def sideV (ax ay bx by' cx cy : Int) : Int := (bx - ax) * (cy - ay) - (by' - ay) * (cx - ax)
def ownsV (ax ay bx by' : Int) : Bool := decide (by' < ay ∨ by' = ay ∧ bx > ax)
def edgeV (a b p : Int × Int) : Bool := decide (¬ sideV a.1 a.2 b.1 b.2 p.1 p.2 < 0) && (decide (¬ sideV a.1 a.2 b.1 b.2 p.1 p.2 = 0) || ownsV a.1 a.2 b.1 b.2)
def covV (a b c p : Int × Int) : Bool := edgeV a b p && (edgeV b c p && edgeV c a p)
def mid (x y : Int) : Int × Int := (x * 65536 + 32768, y * 65536 + 32768)
def triV (a b c : V) (x y : Int) : Bool :=
  if sideV a.f0 a.f1 b.f0 b.f1 c.f0 c.f1 = 0 then false else if sideV a.f0 a.f1 b.f0 b.f1 c.f0 c.f1 < 0 then covV (a.f0, a.f1) (c.f0, c.f1) (b.f0, b.f1) (mid x y) else covV (a.f0, a.f1) (b.f0, b.f1) (c.f0, c.f1) (mid x y)

def okQ (x : Int) : Prop := -140000000 ≤ x ∧ x ≤ 140000000
theorem side_eq (ax ay bx b' cx cy : Int) (h1 : okQ ax) (h2 : okQ ay) (h3 : okQ bx) (h4 : okQ b') (h5 : okQ cx) (h6 : okQ cy) : raster_side.f ax ay bx b' cx cy = some (sideV ax ay bx b' cx cy) := by
  unfold okQ at *
  unfold raster_side.f sideV
  have m1 := mul_bd (a := bx - ax) (b := cy - ay) (A := 280000000) (B := 280000000) (by omega) (by omega)
  have m2 := mul_bd (a := b' - ay) (b := cx - ax) (A := 280000000) (B := 280000000) (by omega) (by omega)
  rw [wrap_in (x := bx - ax) (by omega) (by omega), wrap_in (x := cy - ay) (by omega) (by omega), wrap_in (x := b' - ay) (by omega) (by omega), wrap_in (x := cx - ax) (by omega) (by omega), wrap_in (x := (bx - ax) * (cy - ay)) (by omega) (by omega), wrap_in (x := (b' - ay) * (cx - ax)) (by omega) (by omega), wrap_in (by omega) (by omega)]
theorem owns_eq (ax ay bx b' : Int) : raster_owns.f ax ay bx b' = some (ownsV ax ay bx b') := by
  unfold raster_owns.f ownsV
  by_cases a : b' < ay
  · rw [if_pos a, decide_eq_true (.inl a)]
  · rw [if_neg a]
    by_cases b : b' = ay
    · rw [if_pos b]
      congr 1
      exact decide_eq_decide.mpr (by omega)
    · rw [if_neg b]
      exact congrArg some (decide_eq_false (by omega)).symm

theorem l0_one (k : Nat) (a b c p : Int × Int) (i : Int) (hi : i = 0 ∨ i = 1 ∨ i = 2) (e0 e1 : Int × Int) (h0 : e0 = raster_covers.pt i a b c) (h1 : e1 = raster_covers.pt i b c a) (q : okQ e0.1 ∧ okQ e0.2 ∧ okQ e1.1 ∧ okQ e1.2 ∧ okQ p.1 ∧ okQ p.2) (r : Bool)
    (hr : raster_covers.l0 k a b c p (i + 1) = some r) : raster_covers.l0 (k + 1) a b c p i = some (edgeV e0 e1 p && r) := by
  rw [raster_covers.l0, if_pos (by omega), ← h0, ← h1, side_eq _ _ _ _ _ _ q.1 q.2.1 q.2.2.1 q.2.2.2.1 q.2.2.2.2.1 q.2.2.2.2.2, owns_eq, wrap_in (x := i + 1) (by omega) (by omega), hr]
  unfold edgeV
  show (if sideV e0.1 e0.2 e1.1 e1.2 p.1 p.2 < 0 then some false else if sideV e0.1 e0.2 e1.1 e1.2 p.1 p.2 = 0 then (if ownsV e0.1 e0.2 e1.1 e1.2 = true then some r else some false) else some r) = _
  generalize sideV e0.1 e0.2 e1.1 e1.2 p.1 p.2 = m
  by_cases c1 : m < 0
  · rw [if_pos c1]; simp [c1]
  · rw [if_neg c1]
    by_cases c2 : m = 0
    · rw [if_pos c2]; subst c2; cases ownsV e0.1 e0.2 e1.1 e1.2 <;> simp
    · rw [if_neg c2]; simp [c1, c2]

theorem cov_eq (k : Nat) (a b c p : Int × Int) (ha : okQ a.1 ∧ okQ a.2) (hb : okQ b.1 ∧ okQ b.2) (hc : okQ c.1 ∧ okQ c.2) (hp : okQ p.1 ∧ okQ p.2) : raster_covers.l0 (k + 4) a b c p 0 = some (covV a b c p) := by
  refine l0_one (k + 3) a b c p 0 (by omega) a b rfl rfl ⟨ha.1, ha.2, hb.1, hb.2, hp.1, hp.2⟩ _ (l0_one (k + 2) a b c p 1 (by omega) b c rfl rfl ⟨hb.1, hb.2, hc.1, hc.2, hp.1, hp.2⟩ _ ?_)
  rw [show edgeV c a p = (edgeV c a p && true) by simp]
  refine l0_one (k + 1) a b c p 2 (by omega) c a rfl rfl ⟨hc.1, hc.2, ha.1, ha.2, hp.1, hp.2⟩ _ ?_
  rw [raster_covers.l0, if_neg (by omega)]

theorem rd0 (a : V) (l : List V) : rd_T46 (a :: l) 0 = a := rfl
theorem rd1 (a b : V) (l : List V) : rd_T46 (a :: b :: l) 1 = b := rfl
theorem rd2 (a b c : V) (l : List V) : rd_T46 (a :: b :: c :: l) 2 = c := rfl

theorem covers_eq (k : Nat) (a b c : V) (x y : Int) (ha : okV a) (hb : okV b) (hc : okV c) (hx : okP x) (hy : okP y) : raster_covers.f (k + 4) [a, b, c] x y = some (triV a b c x y) := by
  unfold okV at ha hb hc
  unfold okP at hx hy
  unfold raster_covers.f triV
  rw [if_pos (by simp), rd0, rd1, rd2, side_eq _ _ _ _ _ _ (by unfold okQ; omega) (by unfold okQ; omega) (by unfold okQ; omega) (by unfold okQ; omega) (by unfold okQ; omega) (by unfold okQ; omega)]
  show (if sideV a.f0 a.f1 b.f0 b.f1 c.f0 c.f1 = 0 then some false else if sideV a.f0 a.f1 b.f0 b.f1 c.f0 c.f1 < 0 then _ else _) = _
  have e1 : wrap64 (wrap64 (x * 65536) + 32768) = x * 65536 + 32768 := by rw [wrap_in (x := x * 65536) (by omega) (by omega), wrap_in (by omega) (by omega)]
  have e2 : wrap64 (wrap64 (y * 65536) + 32768) = y * 65536 + 32768 := by rw [wrap_in (x := y * 65536) (by omega) (by omega), wrap_in (by omega) (by omega)]
  rw [e1, e2]
  split
  · rfl
  · split
    · exact cov_eq k _ _ _ _ (by unfold okQ; simp only; omega) (by unfold okQ; simp only; omega) (by unfold okQ; simp only; omega) (by unfold okQ; simp only; omega)
    · exact cov_eq k _ _ _ _ (by unfold okQ; simp only; omega) (by unfold okQ; simp only; omega) (by unfold okQ; simp only; omega) (by unfold okQ; simp only; omega)

/-! ### A thing -/
instance (p : V) : Decidable (okV p) := by unfold okV; exact inferInstance
def faultV (t : Th) : Int :=
  if (t.f0 = 1 ∧ t.f3.length = 2) ∨ (t.f0 = 2 ∧ t.f3.length = 3) then (if (0 ≤ t.f1 ∧ t.f1 ≤ 100) ∧ 1 ≤ t.f2 ∧ t.f2 ≤ 255 then (if ∀ p ∈ t.f3, okV p then 0 else 2) else 1) else 3
def hitV (t : Th) (x y : Int) : Bool := match t.f3 with
  | [a, b] => onV (a.f0 / 65536) (a.f1 / 65536) (b.f0 / 65536) (b.f1 / 65536) x y
  | [a, b, c] => triV a b c x y
  | _ => false

theorem ne_iff {a b : Int} : ((a != b) = true) ↔ ¬ a = b := by simp

theorem mn_lt {a b c : Int} : mn a b < c ↔ a < c ∨ b < c := by unfold mn; split <;> omega
theorem mx_gt {a b c : Int} : mx a b > c ↔ a > c ∨ b > c := by unfold mx; split <;> omega
theorem chk_l0 (l : List V) (hl : l.length ≤ 9223372036854775807) : ∀ n i : Nat, i + n = l.length → ∀ k, cull_Check.l0 (k + n + 1) l l.length i = some (if ∀ p ∈ l.drop i, okV p then 0 else 2) := by
  intro n
  induction n with
  | zero =>
    intro i hi k
    rw [cull_Check.l0, if_neg (by omega), List.drop_eq_nil_of_le (by omega), if_pos (by simp)]
  | succ n ih =>
    intro i hi k
    have hd : l.drop i = rd_T46 l i :: l.drop (i + 1) := by
      rw [List.drop_eq_getElem_cons (by omega)]
      congr 1
      simp [rd_T46, show i < l.length by omega]
    rw [cull_Check.l0, if_pos (by omega), if_pos (by omega), if_pos (by omega), hd, wrap_in (x := (i : Int) + 1) (by omega) (by omega)]
    generalize rd_T46 l i = p
    have := ih (i + 1) (by omega) k
    rw [show ((i + 1 : Nat) : Int) = (i : Int) + 1 by omega] at this
    rw [show k + (n + 1) = k + n + 1 by omega, this]
    by_cases h : okV p
    · have h' := h
      unfold okV at h'
      rw [if_neg (by rw [mn_lt]; omega), if_neg (by rw [mx_gt]; omega)]
      by_cases c : ∀ q ∈ l.drop (i + 1), okV q
      · rw [if_pos c, if_pos (by intro q hq; rcases List.mem_cons.mp hq with rfl | hq; exact h; exact c q hq)]
      · rw [if_neg c, if_neg (fun g => c fun q hq => g q (List.mem_cons_of_mem _ hq))]
    · have h' := h
      unfold okV at h'
      rw [if_neg (c := ∀ q ∈ p :: l.drop (i + 1), okV q) (fun g => h (g p (List.mem_cons_self ..)))]
      by_cases c : mn p.f0 p.f1 < -65536000
      · rw [if_pos c]
      · rw [mn_lt] at c
        rw [if_neg (by rw [mn_lt]; omega), if_pos (by rw [mx_gt]; omega)]

theorem check_ev (t : Th) (hl : t.f3.length ≤ 9223372036854775807) : Ev (fun k => cull_Check.f k t.f0 t.f1 t.f2 t.f3) (faultV t) := by
  refine ev_steps (t.f3.length + 3) fun k => ?_
  have j1 : ∀ b : Bool, (b = true ↔ ¬ ((0 ≤ t.f1 ∧ t.f1 ≤ 100) ∧ 1 ≤ t.f2 ∧ t.f2 ≤ 255)) → cull_Check.j1 (k + t.f3.length + 2) b t.f0 t.f1 t.f2 t.f3 = some (if (0 ≤ t.f1 ∧ t.f1 ≤ 100) ∧ 1 ≤ t.f2 ∧ t.f2 ≤ 255 then (if ∀ p ∈ t.f3, okV p then 0 else 2) else 1) := by
    intro b hb
    rw [cull_Check.j1]
    cases b
    · rw [if_neg (by simp), if_pos (by by_cases c : (0 ≤ t.f1 ∧ t.f1 ≤ 100) ∧ 1 ≤ t.f2 ∧ t.f2 ≤ 255; exact c; exact absurd (hb.2 c) (by simp))]
      exact chk_l0 t.f3 hl t.f3.length 0 (by omega) k
    · rw [if_pos rfl, if_neg (hb.1 rfl)]
  have j0 : ∀ b : Bool, (b = true ↔ ¬ ((t.f0 = 1 ∧ t.f3.length = 2) ∨ (t.f0 = 2 ∧ t.f3.length = 3))) → cull_Check.j0 (k + t.f3.length + 3) b t.f0 t.f1 t.f2 t.f3 = some (faultV t) := by
    intro b hb
    rw [cull_Check.j0]
    unfold faultV
    cases b
    · rw [if_neg (by simp), if_pos (c := _ ∨ _) (by by_cases c : (t.f0 = 1 ∧ t.f3.length = 2) ∨ (t.f0 = 2 ∧ t.f3.length = 3); exact c; exact absurd (hb.2 c) (by simp))]
      split
      · exact j1 _ (by simp; omega)
      · split
        · exact j1 _ (by simp; omega)
        · split
          · exact j1 _ (by simp; omega)
          · exact j1 _ (by rw [decide_eq_true_eq]; omega)
    · rw [if_pos rfl, if_neg (hb.1 rfl)]
  unfold cull_Check.f
  by_cases c1 : t.f0 = 1
  · rw [if_pos c1, wrap_in (by omega) (by omega)]
    exact j0 _ (by rw [ne_iff]; omega)
  · rw [if_neg c1]
    by_cases c2 : t.f0 = 2
    · rw [if_pos c2, wrap_in (by omega) (by omega)]
      exact j0 _ (by rw [ne_iff]; omega)
    · rw [if_neg c2]
      exact j0 _ (by simp; omega)

theorem fault0 {t : Th} (h : faultV t = 0) : (t.f0 = 1 ∧ ∃ a b, t.f3 = [a, b] ∧ okV a ∧ okV b) ∨ (t.f0 = 2 ∧ ∃ a b c, t.f3 = [a, b, c] ∧ okV a ∧ okV b ∧ okV c) := by
  unfold faultV at h
  split at h
  · rename_i h1
    split at h
    · split at h
      · rename_i h2
        rcases h1 with ⟨e, l⟩ | ⟨e, l⟩
        · match hq : t.f3, l with
          | [a, b], _ => exact .inl ⟨e, a, b, rfl, h2 a (by rw [hq]; simp), h2 b (by rw [hq]; simp)⟩
        · match hq : t.f3, l with
          | [a, b, c], _ => exact .inr ⟨e, a, b, c, rfl, h2 a (by rw [hq]; simp), h2 b (by rw [hq]; simp), h2 c (by rw [hq]; simp)⟩
      · omega
    · omega
  · omega
theorem fault_len {t : Th} (h : faultV t = 0) : t.f3.length ≤ 3 := by
  rcases fault0 h with ⟨_, a, b, e, _⟩ | ⟨_, a, b, c, e, _⟩ <;> rw [e] <;> simp

theorem hits_ev (t : Th) (x y : Int) (h : faultV t = 0) (hx : okP x) (hy : okP y) : Ev (fun k => raster_Hits.f k t.f0 t.f1 t.f2 t.f3 x y) (hitV t x y) := by
  have hj : ∀ b : Bool, b = false → Ev (fun k => raster_Hits.j0 k x y b t.f0 t.f1 t.f2 t.f3) (hitV t x y) := by
    rintro b rfl
    rcases fault0 h with ⟨e, a, b, e3, ha, hb⟩ | ⟨e, a, b, c, e3, ha, hb, hc⟩
    · refine ev_steps 4 fun k => ?_
      rw [raster_Hits.j0, if_neg (by simp), if_pos e, e3, if_pos (by simp), if_pos (by simp), rd0, rd1, on_eq k a b x y ha hb hx hy]
      unfold hitV
      rw [e3]
      rfl
    · refine ev_steps 5 fun k => ?_
      rw [raster_Hits.j0, if_neg (by simp), if_neg (by omega), e3, covers_eq k a b c x y ha hb hc hx hy]
      unfold hitV
      rw [e3]
      rfl
  unfold okP at hx hy
  have hc := check_ev t (by have := fault_len h; omega)
  rw [h] at hc
  unfold raster_Hits.f
  refine Ev.bind hc ?_
  simp only [if_true, if_neg (show ¬ mn x y < -2000 by rw [mn_lt]; omega)]
  exact hj _ (decide_eq_false (by rw [mx_gt]; omega))

/-! ### A picture -/
def boxV : List V → Int × Int × Int × Int
  | [a, b] => (mn (mn a.f0 a.f0) b.f0, mn (mn a.f1 a.f1) b.f1, mx (mx a.f0 a.f0) b.f0, mx (mx a.f1 a.f1) b.f1)
  | [a, b, c] => (mn (mn (mn a.f0 a.f0) b.f0) c.f0, mn (mn (mn a.f1 a.f1) b.f1) c.f1, mx (mx (mx a.f0 a.f0) b.f0) c.f0, mx (mx (mx a.f1 a.f1) b.f1) c.f1)
  | _ => (0, 0, 0, 0)
theorem bounds_ev (t : Th) (h : faultV t = 0) : Ev (fun k => cull_Bounds.f k t.f0 t.f1 t.f2 t.f3) (boxV t.f3) := by
  have w1 : wrap64 1 = 1 := by decide +kernel
  have w2 : wrap64 2 = 2 := by decide +kernel
  have w3 : wrap64 3 = 3 := by decide +kernel
  rcases fault0 h with ⟨e, a, b, e3, ha, hb⟩ | ⟨e, a, b, c, e3, ha, hb, hc⟩
  · refine ev_steps 3 fun k => ?_
    rw [e3]
    unfold cull_Bounds.f
    simp [cull_Bounds.l0, rd0, rd1, w1, w2, boxV]
  · refine ev_steps 4 fun k => ?_
    rw [e3]
    unfold cull_Bounds.f
    simp [cull_Bounds.l0, rd0, rd1, rd2, w1, w2, w3, boxV]
theorem box_ok (t : Th) (h : faultV t = 0) : (-65536000 ≤ (boxV t.f3).1 ∧ (boxV t.f3).1 ≤ 65536000) ∧ (-65536000 ≤ (boxV t.f3).2.1 ∧ (boxV t.f3).2.1 ≤ 65536000) ∧ (-65536000 ≤ (boxV t.f3).2.2.1 ∧ (boxV t.f3).2.2.1 ≤ 65536000) ∧ -65536000 ≤ (boxV t.f3).2.2.2 ∧ (boxV t.f3).2.2.2 ≤ 65536000 := by
  have hn : ∀ a b : Int, (-65536000 ≤ a ∧ a ≤ 65536000) → (-65536000 ≤ b ∧ b ≤ 65536000) → -65536000 ≤ mn a b ∧ mn a b ≤ 65536000 := by intro a b h1 h2; unfold mn; split <;> omega
  have hm : ∀ a b : Int, (-65536000 ≤ a ∧ a ≤ 65536000) → (-65536000 ≤ b ∧ b ≤ 65536000) → -65536000 ≤ mx a b ∧ mx a b ≤ 65536000 := by intro a b h1 h2; unfold mx; split <;> omega
  rcases fault0 h with ⟨e, a, b, e3, ha, hb⟩ | ⟨e, a, b, c, e3, ha, hb, hc⟩
  · rw [e3]
    exact ⟨hn _ _ (hn _ _ ha.1 ha.1) hb.1, hn _ _ (hn _ _ ha.2 ha.2) hb.2, hm _ _ (hm _ _ ha.1 ha.1) hb.1, hm _ _ (hm _ _ ha.2 ha.2) hb.2⟩
  · rw [e3]
    exact ⟨hn _ _ (hn _ _ (hn _ _ ha.1 ha.1) hb.1) hc.1, hn _ _ (hn _ _ (hn _ _ ha.2 ha.2) hb.2) hc.2, hm _ _ (hm _ _ (hm _ _ ha.1 ha.1) hb.1) hc.1, hm _ _ (hm _ _ (hm _ _ ha.2 ha.2) hb.2) hc.2⟩

/-- What is in a thing's box. -/
def inB (t : Th) (x y : Int) : Bool := decide ((boxV t.f3).1 / 65536 ≤ x ∧ x ≤ (boxV t.f3).2.2.1 / 65536 ∧ (boxV t.f3).2.1 / 65536 ≤ y ∧ y ≤ (boxV t.f3).2.2.2 / 65536)
def seenV (t : Th) (x y : Int) : Bool := inB t x y && hitV t x y

/-- The pixels of an area, row by row. -/
def grid (X Y : Int) (W H : Nat) (g : Int → Int → Int) : List Int := (List.range (W * H)).map fun i => g (X + ((i % W : Nat) : Int)) (Y + ((i / W : Nat) : Int))
theorem grid_length (X Y : Int) (W H : Nat) (g : Int → Int → Int) : (grid X Y W H g).length = W * H := by simp [grid]
theorem grid_get (X Y : Int) (W H : Nat) (g : Int → Int → Int) (i : Nat) (hi : i < W * H) : (grid X Y W H g)[i]? = some (g (X + ((i % W : Nat) : Int)) (Y + ((i / W : Nat) : Int))) := by
  simp [grid, List.getElem?_map, List.getElem?_range, hi]
theorem grid_congr (X Y : Int) (W H : Nat) (g g' : Int → Int → Int) (h : ∀ x y, X ≤ x → x < X + W → Y ≤ y → y < Y + H → g x y = g' x y) : grid X Y W H g = grid X Y W H g' := by
  refine List.map_congr_left fun i hi => ?_
  have hi' : i < W * H := List.mem_range.mp hi
  have hW : 0 < W := by rcases Nat.eq_zero_or_pos W with h0 | h0; subst h0; simp at hi'; exact h0
  have h1 := Nat.mod_lt i hW
  have h2 : i / W < H := by rw [Nat.div_lt_iff_lt_mul hW, Nat.mul_comm]; exact hi'
  generalize i / W = q at *
  generalize i % W = m at *
  exact h _ _ (by omega) (by omega) (by omega) (by omega)
theorem idx_mod (W r c : Nat) (hc : c < W) : (r * W + c) % W = c ∧ (r * W + c) / W = r := by
  have hW : 0 < W := by omega
  constructor
  · rw [Nat.add_comm, Nat.add_mul_mod_self_right, Nat.mod_eq_of_lt hc]
  · rw [Nat.add_comm, Nat.add_mul_div_right _ _ hW, Nat.div_eq_of_lt hc, Nat.zero_add]
theorem idx_lt (W H r c : Nat) (hc : c < W) (hr : r < H) : r * W + c < W * H := by
  have := Nat.mul_le_mul_right W (show r + 1 ≤ H from hr)
  rw [Nat.mul_comm W H]
  rw [Nat.add_mul] at this
  omega
theorem grid_set (X Y : Int) (W H : Nat) (g : Int → Int → Int) (r c : Nat) (v : Int) (hc : c < W) (hr : r < H) :
    (grid X Y W H g).set (r * W + c) v = grid X Y W H fun x y => if x = X + c ∧ y = Y + r then v else g x y := by
  refine List.ext_getElem? fun i => ?_
  rw [List.getElem?_set, grid_length]
  have hb := idx_lt W H r c hc hr
  by_cases hi : i < W * H
  · rw [grid_get _ _ _ _ _ _ hi, grid_get _ _ _ _ _ _ hi]
    have hm := idx_mod W r c hc
    by_cases e : r * W + c = i
    · subst e
      rw [if_pos rfl, if_pos hi, hm.1, hm.2, if_pos ⟨rfl, rfl⟩]
    · rw [if_neg e, if_neg]
      rintro ⟨h1, h2⟩
      have h3 : i % W = c := by omega
      have h4 : i / W = r := by omega
      have h5 := Nat.div_add_mod i W
      rw [h3, h4, Nat.mul_comm] at h5
      exact e h5
  · rw [if_neg (by omega), List.getElem?_eq_none (by rw [grid_length]; omega), List.getElem?_eq_none (by rw [grid_length]; omega)]

theorem lt_mn {a b c : Int} : c ≤ mn a b ↔ c ≤ a ∧ c ≤ b := by unfold mn; split <;> omega
theorem le_mx {a b c : Int} : mx a b ≤ c ↔ a ≤ c ∧ b ≤ c := by unfold mx; split <;> omega
def okA (X Y : Int) (W H : Nat) : Prop := (-1000 ≤ X ∧ X ≤ 1000) ∧ (-1000 ≤ Y ∧ Y ≤ 1000) ∧ (1 ≤ W ∧ W ≤ 64) ∧ 1 ≤ H ∧ H ≤ 64
theorem WH_le {X Y : Int} {W H : Nat} (h : okA X Y W H) : W * H ≤ 4096 := by
  unfold okA at h
  exact Nat.le_trans (Nat.mul_le_mul (show W ≤ 64 by omega) (show H ≤ 64 by omega)) (by omega)

theorem l3_ev (t : Th) (ht : faultV t = 0) (X Y : Int) (W H : Nat) (hA : okA X Y W H) (L : List Th) (m i : Int) (lx hx hy : Int) (hxb : -1100 ≤ hx ∧ hx ≤ 1100) (y : Int) (hyb : Y ≤ y ∧ y < Y + H) (R : List Int × Int) :
    ∀ n : Nat, ∀ (x : Int) (g : Int → Int → Int), X ≤ x → x ≤ X + W + 3000 → (mn hx (X + W - 1) + 1 - x).toNat = n →
      Ev (fun k => raster_Picture.l2 k (grid X Y W H fun x' y' => if y' = y ∧ x ≤ x' ∧ x' ≤ hx ∧ hitV t x' y' = true then t.f2 else g x' y') lx hx hy (y + 1) L m i X Y W H t.f0 t.f1 t.f2 t.f3) R →
      Ev (fun k => raster_Picture.l3 k (grid X Y W H g) lx hx hy y x L m i X Y W H t.f0 t.f1 t.f2 t.f3) R := by
  have hWH := WH_le hA
  unfold okA at hA
  have w1 : wrap64 (wrap64 (X + (W : Int)) - 1) = X + W - 1 := by rw [wrap_in (x := X + (W : Int)) (by omega) (by omega), wrap_in (by omega) (by omega)]
  have w2 : wrap64 (y + 1) = y + 1 := wrap_in (by omega) (by omega)
  intro n
  induction n with
  | zero =>
    intro x g h0 h1 hn he
    refine Ev.step (fun k => by rw [raster_Picture.l3, w1, if_neg (by omega), w2]) ?_
    rw [grid_congr X Y W H _ g] at he
    · exact he
    · intro x' y' a b c d
      rw [if_neg]
      rintro ⟨_, e1, e2, _⟩
      have := (lt_mn (a := hx) (b := X + W - 1) (c := x')).mpr ⟨e2, by omega⟩
      omega
  | succ n ih =>
    intro x g h0 h1 hn he
    have hle : x ≤ mn hx (X + W - 1) := by omega
    have hle' := lt_mn.mp hle
    have w3 : wrap64 (x + 1) = x + 1 := wrap_in (by omega) (by omega)
    refine Ev.step (fun k => by rw [raster_Picture.l3, w1, if_pos hle, w3]) ?_
    refine Ev.bind (hits_ev t x y ht (by unfold okP; omega) (by unfold okP; omega)) ?_
    cases hh : hitV t x y
    · simp only [Bool.false_eq_true, if_false]
      refine ih (x + 1) g (by omega) (by omega) (by omega) ?_
      refine cast (congrArg (fun F : Int → Int → Int => Ev (fun k => raster_Picture.l2 k (grid X Y W H F) lx hx hy (y + 1) L m i X Y W H t.f0 t.f1 t.f2 t.f3) R) ?_) he
      funext x' y'
      by_cases e : y' = y ∧ x' = x
      · obtain ⟨rfl, rfl⟩ := e
        rw [if_neg (by simp [hh]), if_neg (by omega)]
      · by_cases c : y' = y ∧ x ≤ x' ∧ x' ≤ hx ∧ hitV t x' y' = true
        · rw [if_pos c, if_pos ⟨c.1, by omega, c.2.2⟩]
        · rw [if_neg c, if_neg (fun c' => c ⟨c'.1, by omega, c'.2.2⟩)]
    · simp only [if_true]
      obtain ⟨r, hr⟩ := Int.eq_ofNat_of_zero_le (show 0 ≤ y - Y by omega)
      obtain ⟨c, hc⟩ := Int.eq_ofNat_of_zero_le (show 0 ≤ x - X by omega)
      have hrH : r < H := by omega
      have hcW : c < W := by omega
      have hidx := idx_lt W H r c hcW hrH
      have hrW : r * W ≤ 4096 := by omega
      have e0 : (y - Y) * (W : Int) = ((r * W : Nat) : Int) := by rw [hr, Int.natCast_mul]
      have e1 : wrap64 (wrap64 (wrap64 (wrap64 (y - Y) * (W : Int)) + x) - X) = ((r * W + c : Nat) : Int) := by
        rw [wrap_in (x := y - Y) (by omega) (by omega), e0, wrap_in (x := ((r * W : Nat) : Int)) (by omega) (by omega), wrap_in (x := ((r * W : Nat) : Int) + x) (by omega) (by omega), wrap_in (by omega) (by omega)]
        omega
      rw [e1]
      simp only [if_pos (show (0 : Int) ≤ ((r * W + c : Nat) : Int) by omega), if_pos (show ((r * W + c : Nat) : Int) < (((grid X Y W H g).length : Nat) : Int) by rw [grid_length]; omega), Int.toNat_natCast, grid_set X Y W H g r c t.f2 hcW hrH]
      refine ih (x + 1) _ (by omega) (by omega) (by omega) ?_
      refine cast (congrArg (fun F : Int → Int → Int => Ev (fun k => raster_Picture.l2 k (grid X Y W H F) lx hx hy (y + 1) L m i X Y W H t.f0 t.f1 t.f2 t.f3) R) ?_) he
      funext x' y'
      have ex : X + (c : Int) = x := by omega
      have ey : Y + (r : Int) = y := by omega
      rw [ex, ey]
      by_cases e : y' = y ∧ x' = x
      · obtain ⟨rfl, rfl⟩ := e
        rw [if_pos ⟨rfl, by omega, by omega, hh⟩, if_neg (by omega), if_pos ⟨rfl, rfl⟩]
      · by_cases c : y' = y ∧ x ≤ x' ∧ x' ≤ hx ∧ hitV t x' y' = true
        · rw [if_pos c, if_pos ⟨c.1, by omega, c.2.2⟩]
        · rw [if_neg c, if_neg (fun c' => c ⟨c'.1, by omega, c'.2.2⟩), if_neg (fun q => e ⟨q.2, q.1⟩)]

theorem l2_ev (t : Th) (ht : faultV t = 0) (X Y : Int) (W H : Nat) (hA : okA X Y W H) (L : List Th) (m i : Int) (hi : 0 ≤ i ∧ i ≤ 1000) (lx hx hy : Int) (hlb : -1100 ≤ lx ∧ lx ≤ 1100) (hxb : -1100 ≤ hx ∧ hx ≤ 1100) (hyb : -1100 ≤ hy ∧ hy ≤ 1100) (R : List Int × Int) :
    ∀ n : Nat, ∀ (y : Int) (g : Int → Int → Int), Y ≤ y → y ≤ 3000 → (mn hy (Y + H - 1) + 1 - y).toNat = n →
      Ev (fun k => raster_Picture.l1 k (grid X Y W H fun x' y' => if (lx ≤ x' ∧ x' ≤ hx ∧ y ≤ y' ∧ y' ≤ hy) ∧ hitV t x' y' = true then t.f2 else g x' y') L m (i + 1) X Y W H) R →
      Ev (fun k => raster_Picture.l2 k (grid X Y W H g) lx hx hy y L m i X Y W H t.f0 t.f1 t.f2 t.f3) R := by
  have hA' := hA
  unfold okA at hA
  have w1 : wrap64 (wrap64 (Y + (H : Int)) - 1) = Y + H - 1 := by rw [wrap_in (x := Y + (H : Int)) (by omega) (by omega), wrap_in (by omega) (by omega)]
  have w2 : wrap64 (i + 1) = i + 1 := wrap_in (by omega) (by omega)
  intro n
  induction n with
  | zero =>
    intro y g h0 h1 hn he
    refine Ev.step (fun k => by rw [raster_Picture.l2, w1, if_neg (by omega), w2]) ?_
    rw [grid_congr X Y W H _ g] at he
    · exact he
    · intro x' y' a b c d
      rw [if_neg]
      rintro ⟨⟨_, _, e1, e2⟩, _⟩
      have := (lt_mn (a := hy) (b := Y + H - 1) (c := y')).mpr ⟨e2, by omega⟩
      omega
  | succ n ih =>
    intro y g h0 h1 hn he
    have hle : y ≤ mn hy (Y + H - 1) := by omega
    have hle' := lt_mn.mp hle
    refine Ev.step (fun k => by rw [raster_Picture.l2, w1, if_pos hle]) ?_
    have hm := le_mx (a := lx) (b := X) (c := mx lx X)
    have hm2 : mx lx X ≤ 1100 := le_mx.mpr ⟨by omega, by omega⟩
    refine l3_ev t ht X Y W H hA' L m i lx hx hy hxb y ⟨by omega, by omega⟩ R _ (mx lx X) g (hm.mp (Int.le_refl _)).2 (by omega) rfl ?_
    refine ih (y + 1) _ (by omega) (by omega) (by omega) ?_
    refine cast (congrArg (fun F : List Int => Ev (fun k => raster_Picture.l1 k F L m (i + 1) X Y W H) R) (grid_congr _ _ _ _ _ _ ?_)) he
    intro x' y' a b c d
    have hm3 : mx lx X ≤ x' ↔ lx ≤ x' := by rw [le_mx]; omega
    by_cases c1 : hitV t x' y' = true
    · by_cases c2 : lx ≤ x' ∧ x' ≤ hx ∧ y' ≤ hy
      · by_cases c3 : y ≤ y'
        · rw [if_pos ⟨⟨c2.1, c2.2.1, c3, c2.2.2⟩, c1⟩]
          by_cases c4 : y + 1 ≤ y'
          · rw [if_pos ⟨⟨c2.1, c2.2.1, c4, c2.2.2⟩, c1⟩]
          · rw [if_neg (fun q => c4 q.1.2.2.1), if_pos ⟨by omega, hm3.mpr c2.1, c2.2.1, c1⟩]
        · rw [if_neg (fun q => c3 q.1.2.2.1), if_neg (fun q => c3 (by have := q.1.2.2.1; omega)), if_neg (fun q => c3 (by have := q.1; omega))]
      · rw [if_neg (fun q => c2 ⟨q.1.1, q.1.2.1, q.1.2.2.2⟩), if_neg (fun q => c2 ⟨q.1.1, q.1.2.1, q.1.2.2.2⟩)]
        by_cases c5 : y' = y
        · rw [if_neg (fun q => c2 ⟨hm3.mp q.2.1, q.2.2.1, by omega⟩)]
        · rw [if_neg (fun q => c5 q.1)]
    · rw [if_neg (fun q => c1 q.2), if_neg (fun q => c1 q.2), if_neg (fun q => c1 q.2.2.2)]

/-- The colour of a pixel. -/
def colour (L : List Th) (x y c : Int) : Int := L.foldl (fun c t => if seenV t x y = true then t.f2 else c) c

theorem rdT (L : List Th) (i : Nat) (hi : i < L.length) : L.drop i = rd_T33 L i :: L.drop (i + 1) := by
  rw [List.drop_eq_getElem_cons hi]
  congr 1
  simp [rd_T33, hi]

theorem l1_ev (X Y : Int) (W H : Nat) (hA : okA X Y W H) (L : List Th) (hL : L.length ≤ 400) (hok : ∀ t ∈ L, faultV t = 0) : ∀ n i : Nat, i + n = L.length → ∀ g : Int → Int → Int,
    Ev (fun k => raster_Picture.l1 k (grid X Y W H g) L L.length i X Y W H) (grid X Y W H fun x y => colour (L.drop i) x y (g x y), 0) := by
  intro n
  induction n with
  | zero =>
    intro i hi g
    refine Ev.step (f := fun _ => some (grid X Y W H g, 0)) (fun k => by rw [raster_Picture.l1, if_neg (by omega)]) ?_
    rw [List.drop_eq_nil_of_le (by omega)]
    exact Ev.now _
  | succ n ih =>
    intro i hi g
    refine Ev.step (fun k => by rw [raster_Picture.l1, if_pos (by omega), if_pos (by omega), if_pos (by omega)]) ?_
    rw [rdT L i (by omega)]
    have hmem : rd_T33 L i ∈ L := by
      have : rd_T33 L i = L[i]'(by omega) := by simp [rd_T33, show i < L.length by omega]
      rw [this]
      exact List.getElem_mem _
    generalize rd_T33 L i = t at *
    have ht := hok t hmem
    have hb := box_ok t ht
    refine Ev.bind (bounds_ev t ht) ?_
    refine Ev.bind (ev_all fun k => pixel_eq _ _ (by omega) (by omega)) ?_
    refine Ev.bind (ev_all fun k => pixel_eq _ _ (by omega) (by omega)) ?_
    have hA' := hA
    unfold okA at hA'
    simp only
    have hm := le_mx (a := (boxV t.f3).2.1 / 65536) (b := Y) (c := mx ((boxV t.f3).2.1 / 65536) Y)
    have hm2 : mx ((boxV t.f3).2.1 / 65536) Y ≤ 1100 := le_mx.mpr ⟨by omega, by omega⟩
    refine l2_ev t ht X Y W H hA L L.length i ⟨by omega, by omega⟩ _ _ _ ⟨by omega, by omega⟩ ⟨by omega, by omega⟩ ⟨by omega, by omega⟩ _ _ _ g (hm.mp (Int.le_refl _)).2 (by omega) rfl ?_
    have := ih (i + 1) (by omega) (fun x y => if seenV t x y = true then t.f2 else g x y)
    rw [show (((i + 1 : Nat) : Int)) = (i : Int) + 1 by omega] at this
    rw [grid_congr X Y W H _ (fun x y => if seenV t x y = true then t.f2 else g x y)]
    · exact this
    · intro x y a b c d
      have hm3 : mx ((boxV t.f3).2.1 / 65536) Y ≤ y ↔ (boxV t.f3).2.1 / 65536 ≤ y := by rw [le_mx]; omega
      unfold seenV inB
      simp only [Bool.and_eq_true, decide_eq_true_eq]
      have : ∀ p q : Prop, (p ↔ q) → ∀ [Decidable p] [Decidable q] (u v : Int), (if p then u else v) = if q then u else v := by
        intro p q h _ _ u v
        by_cases c : p
        · rw [if_pos c, if_pos (h.mp c)]
        · rw [if_neg c, if_neg (fun z => c (h.mpr z))]
      exact this _ _ (by constructor <;> (rintro ⟨⟨a, b, c, d⟩, e⟩; exact ⟨⟨by omega, by omega, by omega, by omega⟩, e⟩)) _ _

theorem areaOK (X Y : Int) (W H : Nat) (hA : okA X Y W H) : Ev (fun k => raster_Check.f k X Y W H) 0 := by
  unfold okA at hA
  refine ev_steps 1 fun k => ?_
  unfold raster_Check.f
  rw [if_neg (by omega), if_neg (by omega), if_neg (by omega), decide_eq_false (by omega), raster_Check.j0, if_neg (by simp), if_neg (by rw [mn_lt]; omega), if_neg (by rw [mx_gt]; omega)]

theorem l0_ev (X Y : Int) (W H : Nat) (hA : okA X Y W H) (L : List Th) (hL : L.length ≤ 400) (hok : ∀ t ∈ L, faultV t = 0) : ∀ n i : Nat, i + n = L.length →
    Ev (fun k => raster_Picture.l0 k L L L.length i X Y W H) (grid X Y W H fun x y => colour L x y 0, 0) := by
  intro n
  induction n with
  | zero =>
    intro i hi
    have hWH := WH_le hA
    have e1 : ((W : Int) * (H : Int)) = ((W * H : Nat) : Int) := by rw [Int.natCast_mul]
    have e2 : wrap64 ((W : Int) * (H : Int)) = ((W * H : Nat) : Int) := by rw [e1, wrap_in (by omega) (by omega)]
    refine Ev.step (fun k => by rw [raster_Picture.l0, if_neg (by omega), e2]) ?_
    refine Ev.bind (areaOK X Y W H hA) ?_
    simp only [if_true, Int.toNat_natCast, if_pos (show (0 : Int) ≤ ((W * H : Nat) : Int) by omega), if_pos (show W * H ≤ 35184372088832 by omega)]
    have := l1_ev X Y W H hA L hL hok L.length 0 (by omega) fun _ _ => 0
    rw [List.drop_zero] at this
    rw [show List.replicate (W * H) (0 : Int) = grid X Y W H fun _ _ => 0 by unfold grid; rw [List.map_const', List.length_range]]
    exact this
  | succ n ih =>
    intro i hi
    refine Ev.step (fun k => by rw [raster_Picture.l0, if_pos (by omega), if_pos (by omega), if_pos (by omega), wrap_in (x := (i : Int) + 1) (by omega) (by omega)]) ?_
    have hmem : rd_T33 L i ∈ L := by
      have : rd_T33 L i = L[i]'(by omega) := by simp [rd_T33, show i < L.length by omega]
      rw [this]
      exact List.getElem_mem _
    generalize rd_T33 L i = t at *
    have ht := hok t hmem
    have hc := check_ev t (by have := fault_len ht; omega)
    rw [ht] at hc
    refine Ev.bind hc ?_
    simp only [if_true]
    have := ih (i + 1) (by omega)
    rwa [show (((i + 1 : Nat) : Int)) = (i : Int) + 1 by omega] at this

/-- The picture of right things. -/
theorem picture_ev (X Y : Int) (W H : Nat) (hA : okA X Y W H) (L : List Th) (hL : L.length ≤ 400) (hok : ∀ t ∈ L, faultV t = 0) :
    Ev (fun k => raster_Picture.f k L X Y W H) (grid X Y W H fun x y => colour L x y 0, 0) := by
  unfold raster_Picture.f
  simp only [if_neg (show ¬ ((L.length : Nat) : Int) > 400 by omega)]
  exact l0_ev X Y W H hA L hL hok L.length 0 (by omega)
end Go.Proofs.Ytijochlkmkmhdaa.RasterCullLess
