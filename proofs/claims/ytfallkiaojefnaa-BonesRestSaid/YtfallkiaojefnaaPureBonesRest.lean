/- What the law BonesRest computes is true, whatever the numbers: in the pose of rest places are sums, and nothing is turned. Under no condition. -/
import Derived.Test.YtfallkiaojefnaaSkelBonesRest
namespace Go.Proofs.Ytfallkiaojefnaa.Pure
open Go.RowKit Go.Proofs.YtfallkiaojefnaaW.PrintWords Go.Proofs.YtfallkiaojefnaaW.PrintLast Go.Proofs.YtfallkiaojefnaaW.PrintMore Go.Proofs.Ytfallkiaojefnaa.PBonesRest Go.Proofs.Ytfallkiaojefnaa.NumBonesRest Go.Proofs.Ytfallkiaojefnaa.SrcBonesRest Go.Proofs.Ytfallkiaojefnaa.SkelBonesRest
set_option linter.unusedVariables false

abbrev Pl := S39
abbrev rdP := rd_T39
theorem rdP_get (L : List Pl) (i : Nat) (h : i < L.length) : rdP L i = L[i] := by simp [rdP, rd_T39, h]

/-! ### The turn that is none -/
theorem mul_one (x : Int) (h : -1000000000 ≤ x ∧ x ≤ 1000000000) : mulV 65536 x = x ∧ mulV x 65536 = x := by
  have c1 : clampV 65536 = 65536 := by decide +kernel
  have c2 : clampV x = x := clampV_id (by omega) (by omega)
  have a1 : absV 65536 = 65536 := by decide +kernel
  have hr : ∀ neg n, (n : Int) = 65536 * absV x → roundV neg n 65536 = if neg = true then -absV x else absV x := by
    intro neg n hn
    have q0 := absV_nn x
    have q1 := absV_le (a := x) (b := 1000000000) h.1 h.2
    unfold roundV
    have e1 : n / 65536 = absV x := by omega
    have e2 : n % 65536 = 0 := by omega
    simp only [e1, e2, if_neg (show ¬ (65536 : Int) ≤ n / 18446744073709551616 by omega), if_neg (show ¬ 1099511627776 < absV x by omega)]
    cases neg
    · simp only [Bool.false_eq_true, if_false]
      rw [if_neg (by omega)]
      exact clampV_id (by omega) (by omega)
    · simp only [if_true]
      rw [if_neg (by omega)]
      exact clampV_id (by omega) (by omega)
  unfold mulV mulDivV
  rw [c1, c2, if_neg (by omega), if_neg (by omega), a1, hr _ _ rfl, hr _ _ (by omega)]
  unfold negV absV
  by_cases hx : x < 0
  · rw [decide_eq_false (show ¬ (65536 : Int) < 0 by omega), decide_eq_true hx]
    simp only [hx, if_true]
    constructor <;> simp
  · rw [decide_eq_false (show ¬ (65536 : Int) < 0 by omega), decide_eq_false hx]
    simp only [hx, if_false]
    constructor <;> simp
theorem mul_zero (x : Int) : mulV 0 x = 0 ∧ mulV x 0 = 0 := by
  have c0 : clampV 0 = 0 := by decide +kernel
  have c1 : clampV 65536 = 65536 := by decide +kernel
  have a0 : absV 0 = 0 := by decide +kernel
  have a1 : absV 65536 = 65536 := by decide +kernel
  have hr : ∀ neg, roundV neg 0 65536 = 0 := by intro neg; cases neg <;> decide +kernel
  unfold mulV mulDivV
  rw [c0, c1, if_neg (by omega), if_neg (by omega), a0, a1, Int.zero_mul, Int.mul_zero, hr, hr]
  exact ⟨rfl, rfl⟩
theorem add_in {a b : Int} (ha : -1000000000 ≤ a ∧ a ≤ 1000000000) (hb : -1000000000 ≤ b ∧ b ≤ 1000000000) : addV a b = a + b := by
  unfold addV
  rw [clampV_id (a := a) (by omega) (by omega), clampV_id (a := b) (by omega) (by omega), clampV_id (by omega) (by omega)]
theorem sum_step (k : Nat) (s : Int) (l : List Int) (i : Nat) (hi : i < l.length) (hl : l.length ≤ 100) : quat_sum.l0 (k + 1) s l l.length i = quat_sum.l0 k (addV s (rd l i)) l l.length ((i + 1 : Nat) : Int) := by
  rw [quat_sum.l0, if_pos (by omega), if_pos (by omega), if_pos (by omega), add_eq, wrap_in (x := (i : Int) + 1) (by omega) (by omega)]
  simp only [Option.bind_some]
  congr 1
theorem sum_ev (a b c d : Int) : Ev (fun k => quat_sum.f k [a, b, c, d]) (addV (addV (addV (addV 0 a) b) c) d) := by
  refine ev_steps 5 fun k => ?_
  unfold quat_sum.f
  rw [show ((([a, b, c, d] : List Int).length : Nat) : Int) = (([a, b, c, d] : List Int).length : Nat) from rfl]
  have s0 := sum_step (k + 4) 0 [a, b, c, d] 0 (by simp) (by simp)
  have s1 := sum_step (k + 3) (addV 0 a) [a, b, c, d] 1 (by simp) (by simp)
  have s2 := sum_step (k + 2) (addV (addV 0 a) b) [a, b, c, d] 2 (by simp) (by simp)
  have s3 := sum_step (k + 1) (addV (addV (addV 0 a) b) c) [a, b, c, d] 3 (by simp) (by simp)
  refine (s0.trans (s1.trans (s2.trans (s3.trans ?_))))
  rw [quat_sum.l0, if_neg (by simp)]
  rfl
where
  ev_steps {α : Type} {g : Nat → Option α} {r : α} (n : Nat) (h : ∀ k, g (k + n) = some r) : Ev g r := ⟨n, fun k hk => by rw [show k = (k - n) + n by omega]; exact h _⟩

theorem qmul_ev (a b c d e f g h : Int) : Ev (fun k => quat_Mul.f k a b c d e f g h)
    (addV (addV (addV (addV 0 (mulV a e)) (wrap64 (-(mulV b f)))) (wrap64 (-(mulV c g)))) (wrap64 (-(mulV d h))),
     addV (addV (addV (addV 0 (mulV a f)) (mulV b e)) (mulV c h)) (wrap64 (-(mulV d g))),
     addV (addV (addV (addV 0 (mulV a g)) (wrap64 (-(mulV b h)))) (mulV c e)) (mulV d f),
     addV (addV (addV (addV 0 (mulV a h)) (mulV b g)) (wrap64 (-(mulV c f)))) (mulV d e)) := by
  unfold quat_Mul.f
  refine Ev.bind (mul_ev _ _) (Ev.bind (mul_ev _ _) (Ev.bind (mul_ev _ _) (Ev.bind (mul_ev _ _) (Ev.bind (sum_ev _ _ _ _) ?_))))
  refine Ev.bind (mul_ev _ _) (Ev.bind (mul_ev _ _) (Ev.bind (mul_ev _ _) (Ev.bind (mul_ev _ _) (Ev.bind (sum_ev _ _ _ _) ?_))))
  refine Ev.bind (mul_ev _ _) (Ev.bind (mul_ev _ _) (Ev.bind (mul_ev _ _) (Ev.bind (mul_ev _ _) (Ev.bind (sum_ev _ _ _ _) ?_))))
  refine Ev.bind (mul_ev _ _) (Ev.bind (mul_ev _ _) (Ev.bind (mul_ev _ _) (Ev.bind (mul_ev _ _) (Ev.bind (sum_ev _ _ _ _) ?_))))
  exact Ev.now _

theorem w0 : wrap64 (-0) = 0 := by decide +kernel
/-- A vector that is not turned. -/
theorem turn_one (x y z : Int) (hx : -1000000000 ≤ x ∧ x ≤ 1000000000) (hy : -1000000000 ≤ y ∧ y ≤ 1000000000) (hz : -1000000000 ≤ z ∧ z ≤ 1000000000) : Ev (fun k => quat_Turn.f k 65536 0 0 0 x y z) (x, y, z) := by
  unfold quat_Turn.f
  refine Ev.bind (qmul_ev _ _ _ _ _ _ _ _) ?_
  have z0 : (-1000000000 : Int) ≤ 0 ∧ (0 : Int) ≤ 1000000000 := by omega
  have hb : quat_Back.f 65536 0 0 0 = some (65536, 0, 0, 0) := by decide +kernel
  simp only [(mul_one 0 z0).1, (mul_one x hx).1, (mul_one y hy).1, (mul_one z hz).1, (mul_zero _).1, w0, add_in z0 z0, add_in z0 hx, add_in z0 hy, add_in z0 hz, add_in hx z0, add_in hy z0, add_in hz z0, Int.zero_add, Int.add_zero, hb, Option.bind_some]
  refine Ev.bind (qmul_ev _ _ _ _ _ _ _ _) ?_
  simp only [(mul_one x hx).2, (mul_one y hy).2, (mul_one z hz).2, (mul_zero _).1, (mul_zero _).2, w0, add_in z0 z0, add_in z0 hx, add_in z0 hy, add_in z0 hz, add_in hx z0, add_in hy z0, Int.zero_add, Int.add_zero]
  exact Ev.now _
theorem unit_one : Ev (fun k => quat_Unit.f k 65536 0 0 0) (65536, 0, 0, 0) := Ev.of (fun k => quat_Unit.mono _ _ _ _ k) (k := 200) (by decide +kernel)
theorem mul_ones : Ev (fun k => quat_Mul.f k 65536 0 0 0 65536 0 0 0) (65536, 0, 0, 0) := Ev.of (fun k => quat_Mul.mono _ _ _ _ _ _ _ _ k) (k := 200) (by decide +kernel)

/-! ### Places -/
def add3 (a b : V3) : V3 := ⟨a.f0 + b.f0, a.f1 + b.f1, a.f2 + b.f2⟩
def zero3 : V3 := ⟨0, 0, 0⟩
def posN (L : List Bn) : Nat → Int → V3
  | 0, _ => zero3
  | n + 1, i => if i < 0 then zero3 else add3 (rdB L i).f1 (posN L n (rdB L i).f0)
theorem pos_neg (L : List Bn) (n : Nat) (i : Int) (h : i < 0) : posN L n i = zero3 := by
  cases n with
  | zero => rfl
  | succ n => rw [posN, if_pos h]
theorem pos_more {L : List Bn} (hS : okS L) : ∀ (n : Nat) (i : Int), i < n → i < L.length → posN L (n + 1) i = posN L n i := by
  intro n
  induction n with
  | zero => intro i h _; rw [pos_neg _ _ _ (by omega), pos_neg _ _ _ (by omega)]
  | succ n ih =>
    intro i h hl
    by_cases hi : i < 0
    · rw [pos_neg _ _ _ hi, pos_neg _ _ _ hi]
    · obtain ⟨j, rfl⟩ := Int.eq_ofNat_of_zero_le (show 0 ≤ i by omega)
      have hb := (okS_rd hS j (by omega)).1
      have := ih (rdB L j).f0 (by omega) (by omega)
      rw [posN, if_neg (by omega), this, posN, if_neg (by omega)]
def in3 (b : Int) (v : V3) : Prop := (-b ≤ v.f0 ∧ v.f0 ≤ b) ∧ (-b ≤ v.f1 ∧ v.f1 ≤ b) ∧ -b ≤ v.f2 ∧ v.f2 ≤ b
theorem pos_in {L : List Bn} (hS : okS L) : ∀ (n : Nat) (i : Int), i < L.length → in3 (n * 655360) (posN L n i) := by
  intro n
  induction n with
  | zero => intro i _; unfold in3 posN zero3; simp only; omega
  | succ n ih =>
    intro i hl
    by_cases hi : i < 0
    · rw [pos_neg _ _ _ hi]; unfold in3 zero3; simp only; omega
    · obtain ⟨j, rfl⟩ := Int.eq_ofNat_of_zero_le (show 0 ≤ i by omega)
      have hb := okS_rd hS j (by omega)
      unfold okB at hb
      have := ih (rdB L j).f0 (by omega)
      unfold in3 at this ⊢
      rw [posN, if_neg (by omega)]
      unfold add3
      simp only
      omega
def pos (L : List Bn) (i : Int) : V3 := posN L 6 i
theorem pos_eq {L : List Bn} (hS : okS L) (hL : L.length ≤ 5) (i : Nat) (hi : i < L.length) : pos L i = add3 (rdB L i).f1 (pos L (rdB L i).f0) := by
  have hb := (okS_rd hS i hi).1
  unfold pos
  rw [pos_more hS 5 (rdB L i).f0 (by omega) (by omega), posN, if_neg (by omega)]
theorem pos_b {L : List Bn} (hS : okS L) (i : Int) (hi : i < L.length) : in3 4000000 (pos L i) := by
  have := pos_in hS 6 i hi
  unfold in3 at *
  unfold pos
  omega

def place (L : List Bn) (i : Nat) : Pl := ⟨pos L i, one⟩
def placesTo (L : List Bn) (n : Nat) : List Pl := (List.range n).map (place L)
theorem placesTo_rd (L : List Bn) (n i : Nat) (h : i < n) : rdP (placesTo L n) i = place L i := by
  rw [rdP_get _ _ (by simp [placesTo, h])]
  simp [placesTo]
theorem placesTo_succ (L : List Bn) (n : Nat) : placesTo L (n + 1) = placesTo L n ++ [place L n] := by simp [placesTo, List.range_succ]

theorem places_l0 {L : List Bn} (hS : okS L) (hL : L.length ≤ 5) : ∀ d i : Nat, i + d = L.length → Ev (fun k => bones_Places.l0 k (List.replicate L.length one) (placesTo L i) L L.length i) (placesTo L L.length, 0) := by
  intro d
  induction d with
  | zero =>
    intro i hi
    obtain rfl : i = L.length := by omega
    exact Ev.step (f := fun _ => some (placesTo L L.length, 0)) (fun k => by rw [bones_Places.l0, if_neg (by omega)]) (Ev.now _)
  | succ d ih =>
    intro i hi
    have h2 := ih (i + 1) (by omega)
    rw [show (((i + 1 : Nat) : Int)) = (i : Int) + 1 by omega, placesTo_succ] at h2
    have hq : rdQ (List.replicate L.length one) i = one := by rw [rdQ_get _ _ (by simp; omega)]; simp
    have hlen : (placesTo L i).length = i := by simp [placesTo]
    have hb := okS_rd hS i (by omega)
    unfold okB at hb
    have hp := pos_eq hS hL i (by omega)
    refine Ev.step (fun k => by rw [bones_Places.l0, if_pos (by omega), if_pos (by omega), if_pos (by omega), if_pos (by rw [List.length_replicate]; omega)]) ?_
    show Ev (fun k => (quat_Unit.f k (rdQ (List.replicate L.length one) i).f0 (rdQ (List.replicate L.length one) i).f1 (rdQ (List.replicate L.length one) i).f2 (rdQ (List.replicate L.length one) i).f3).bind _) _
    rw [hq]
    refine Ev.bind unit_one ?_
    have w : wrap64 ((i : Int) + 1) = i + 1 := wrap_in (by omega) (by omega)
    have hr : rd_T35 L i = rdB L i := rfl
    simp only [hr]
    have hpl : place L i = ⟨pos L i, one⟩ := rfl
    generalize rdB L i = b at *
    by_cases hu : b.f0 ≥ 0
    · obtain ⟨u, hu'⟩ := Int.eq_ofNat_of_zero_le hu
      have hui : u < i := by omega
      have hrp : rd_T39 (placesTo L i) b.f0 = place L u := by rw [hu']; exact placesTo_rd L i u hui
      have hpu := pos_b hS u (by omega)
      unfold in3 at hpu
      simp only [if_pos hu, if_pos (show b.f0 < ((placesTo L i).length : Int) by omega), hrp]
      have e1 : (place L u).f1 = one := rfl
      have e0 : (place L u).f0 = pos L u := rfl
      rw [e1, e0]
      refine Ev.bind (turn_one _ _ _ (by omega) (by omega) (by omega)) ?_
      rw [hu'] at hp
      have ev : pos L i = ⟨(pos L u).f0 + b.f1.f0, (pos L u).f1 + b.f1.f1, (pos L u).f2 + b.f1.f2⟩ := by
        rw [hp]; unfold add3; congr 1 <;> omega
      rw [hpl, ev] at h2
      have a0 : addV (pos L u).f0 b.f1.f0 = (pos L u).f0 + b.f1.f0 := add_in (by omega) (by omega)
      have a1 : addV (pos L u).f1 b.f1.f1 = (pos L u).f1 + b.f1.f1 := add_in (by omega) (by omega)
      have a2 : addV (pos L u).f2 b.f1.f2 = (pos L u).f2 + b.f1.f2 := add_in (by omega) (by omega)
      refine Ev.step (fun k => by rw [bones_Places.l1, if_pos (by omega)]) ?_
      simp only [add_eq, Option.bind_some, if_true, w1, a0]
      refine Ev.step (fun k => by rw [bones_Places.l1, if_pos (by omega)]) ?_
      simp only [add_eq, Option.bind_some, if_neg n10, if_true, w2, a1]
      refine Ev.step (fun k => by rw [bones_Places.l1, if_pos (by omega)]) ?_
      simp only [add_eq, Option.bind_some, if_neg n20, if_neg n21, if_true, w3, a2]
      refine Ev.step (fun k => by rw [bones_Places.l1, if_neg (by omega)]) ?_
      refine Ev.bind mul_ones ?_
      refine Ev.bind unit_one ?_
      simp only [if_pos (show (placesTo L i).length < 2513169434916 by omega), w]
      exact h2
    · have e0 : pos L b.f0 = zero3 := pos_neg _ _ _ (by omega)
      rw [e0] at hp
      have ev : pos L i = b.f1 := by
        rw [hp]; unfold add3 zero3; simp only [Int.add_zero]
      rw [hpl, ev] at h2
      simp only [if_neg hu, if_pos (show (placesTo L i).length < 2513169434916 by omega), w]
      exact h2

theorem one_ok : okQt one := by decide +kernel
theorem places_ev {L : List Bn} (hS : okS L) (hL : L.length ≤ 5) : Ev (fun k => bones_Places.f k L (List.replicate L.length one)) (placesTo L L.length, 0) := by
  unfold bones_Places.f
  have hf : fitV L (List.replicate L.length one) = 0 := by
    unfold fitV
    rw [if_pos (okS_check hS hL), if_pos (by simp), if_pos (by intro q hq; rw [List.eq_of_mem_replicate hq]; exact one_ok)]
  have := fitting_ev L (List.replicate L.length one)
  rw [hf] at this
  refine Ev.bind this ?_
  simp only [if_true]
  exact places_l0 hS hL L.length 0 (by omega)

/-! ### The law -/
theorem stands_ev : Ev (fun k => tourkeep5_stands.f k) true := Ev.of (fun k => tourkeep5_stands.mono k) (k := 200) (by decide +kernel)

theorem law_l1 {L : List Bn} (hS : okS L) (hL : L.length ≤ 5) (i : Nat) (hi : i < L.length) (h : Ev (fun k => tourkeep5_BonesRest.l0 k L (placesTo L L.length) L L.length ((i : Int) + 1)) true) :
    ∀ (n : Nat) (x : Int) (v : V3), x < n → x < L.length → add3 v (pos L x) = pos L i → Ev (fun k => tourkeep5_BonesRest.l1 k L (placesTo L L.length) i x L L.length i v.f0 v.f1 v.f2) true := by
  have hrp : rd_T39 (placesTo L L.length) (i : Int) = place L i := placesTo_rd L L.length i hi
  have hlen : (placesTo L L.length).length = L.length := by simp [placesTo]
  have e1 : (place L i).f1 = one := rfl
  have e0 : (place L i).f0 = pos L i := rfl
  have hend : ∀ (x : Int) (v : V3), x < 0 → add3 v (pos L x) = pos L i → Ev (fun k => tourkeep5_BonesRest.l1 k L (placesTo L L.length) i x L L.length i v.f0 v.f1 v.f2) true := by
    intro x v hx he
    rw [show pos L x = zero3 from pos_neg _ _ _ hx] at he
    have hv : v = pos L i := by rw [← he]; unfold add3 zero3; simp only [Int.add_zero]
    refine Ev.step (fun k => ?_) h
    rw [tourkeep5_BonesRest.l1, if_neg (by omega), if_pos (by omega), if_pos (by omega), hrp, e1, e0, hv, wrap_in (x := (i : Int) + 1) (by omega) (by omega)]
    simp [one]
  intro n
  induction n with
  | zero => intro x v hx _ he; exact hend x v (by omega) he
  | succ n ih =>
    intro x v hx hxl he
    by_cases hneg : x < 0
    · exact hend x v hneg he
    · obtain ⟨j, rfl⟩ := Int.eq_ofNat_of_zero_le (show 0 ≤ x by omega)
      have hb := okS_rd hS j (by omega)
      unfold okB at hb
      have hp := pos_eq hS hL j (by omega)
      have hpi := pos_b hS i (by omega)
      have hpj := pos_b hS j (by omega)
      have g0 : v.f0 + (pos L j).f0 = (pos L i).f0 := congrArg (fun z : V3 => z.f0) he
      have g1 : v.f1 + (pos L j).f1 = (pos L i).f1 := congrArg (fun z : V3 => z.f1) he
      have g2 : v.f2 + (pos L j).f2 = (pos L i).f2 := congrArg (fun z : V3 => z.f2) he
      have hr : rd_T35 L (j : Int) = rdB L j := rfl
      unfold in3 at hpi hpj
      have h2 := ih (rdB L j).f0 (add3 v (rdB L j).f1) (by omega) (by omega) (by rw [← he, hp]; unfold add3; simp only [Int.add_assoc])
      generalize rdB L j = b at *
      have s0 : wrap64 (v.f0 + b.f1.f0) = v.f0 + b.f1.f0 := wrap_in (by omega) (by omega)
      have s1 : wrap64 (v.f1 + b.f1.f1) = v.f1 + b.f1.f1 := wrap_in (by omega) (by omega)
      have s2 : wrap64 (v.f2 + b.f1.f2) = v.f2 + b.f1.f2 := wrap_in (by omega) (by omega)
      refine Ev.step (fun k => by rw [tourkeep5_BonesRest.l1, if_pos (by omega)]) ?_
      have q0 : (0 : Int) ≤ (j : Int) := by omega
      have q1 : (j : Int) < (L.length : Int) := by omega
      refine Ev.step (fun k => by rw [tourkeep5_BonesRest.l2, if_pos (by omega)]) ?_
      simp only [if_true, if_pos q0, if_pos q1, hr, s0, w1]
      refine Ev.step (fun k => by rw [tourkeep5_BonesRest.l2, if_pos (by omega)]) ?_
      simp only [if_neg n10, if_true, if_pos q0, if_pos q1, hr, s1, w2]
      refine Ev.step (fun k => by rw [tourkeep5_BonesRest.l2, if_pos (by omega)]) ?_
      simp only [if_neg n20, if_neg n21, if_true, if_pos q0, if_pos q1, hr, s2, w3]
      refine Ev.step (fun k => by rw [tourkeep5_BonesRest.l2, if_neg (by omega)]) ?_
      simp only [if_pos q0, if_pos q1, hr]
      exact h2

theorem law_l0 {L : List Bn} (hS : okS L) (hL : L.length ≤ 5) : ∀ d i : Nat, i + d = L.length → Ev (fun k => tourkeep5_BonesRest.l0 k L (placesTo L L.length) L L.length i) true := by
  intro d
  induction d with
  | zero =>
    intro i hi
    exact Ev.step (f := fun _ => some true) (fun k => by rw [tourkeep5_BonesRest.l0, if_neg (by omega)]) (Ev.now _)
  | succ d ih =>
    intro i hi
    have h2 := ih (i + 1) (by omega)
    rw [show (((i + 1 : Nat) : Int)) = (i : Int) + 1 by omega] at h2
    have hb := okS_rd hS i (by omega)
    have hr : rd_T35 L (i : Int) = rdB L i := rfl
    refine Ev.step (fun k => by rw [tourkeep5_BonesRest.l0, if_pos (by omega), if_pos (by omega), if_pos (by omega), hr]) ?_
    exact law_l1 hS hL i (by omega) h2 (i + 1) (rdB L i).f0 (rdB L i).f1 (by have := hb.1; omega) (by have := hb.1; omega) (pos_eq hS hL i (by omega)).symm

theorem BonesRest : tourkeep5_BonesRest.Pure := by
  intro l0 hl hl2 _
  refine Ev.rounds ?_
  obtain ⟨L, hev, hS, hL⟩ := skel_ev l0 (by omega)
  unfold tourkeep5_BonesRest.f
  refine Ev.bind stands_ev ?_
  simp only [if_true]
  refine Ev.bind hev ?_
  refine Ev.bind (rest_ev L (by omega)) ?_
  refine Ev.bind (places_ev hS hL) ?_
  have hlen : (placesTo L L.length).length = L.length := by simp [placesTo]
  simp only [if_true, hlen]
  refine Ev.step (fun k => by rw [tourkeep5_BonesRest.j0, if_neg (by simp)]) ?_
  exact law_l0 hS hL L.length 0 (by omega)
end Go.Proofs.Ytfallkiaojefnaa.Pure
