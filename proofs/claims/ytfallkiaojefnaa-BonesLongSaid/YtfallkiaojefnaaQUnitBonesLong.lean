/- quat.Unit, Mul and Blend come to an answer, whatever the numbers. Under no condition but what stands at each. -/
import Derived.Test.YtfallkiaojefnaaNumBonesLong
namespace Go.Proofs.Ytfallkiaojefnaa.QUnitBonesLong
open Go.RowKit Go.Proofs.YtfallkiaojefnaaW.PrintWords Go.Proofs.YtfallkiaojefnaaW.PrintLast Go.Proofs.YtfallkiaojefnaaW.PrintMore Go.Proofs.Ytfallkiaojefnaa.Ext Go.Proofs.Ytfallkiaojefnaa.PBonesLong Go.Proofs.Ytfallkiaojefnaa.NumBonesLong
set_option linter.unusedVariables false

theorem qev_steps {α : Type} {g : Nat → Option α} {r : α} (n : Nat) (h : ∀ k, g (k + n) = some r) : Ev g r := ⟨n, fun k hk => by rw [show k = (k - n) + n by omega]; exact h _⟩
theorem sum_step (k : Nat) (s : Int) (l : List Int) (i : Nat) (hi : i < l.length) (hl : l.length ≤ 100) : quat_sum.l0 (k + 1) s l l.length i = quat_sum.l0 k (addV s (rd l i)) l l.length ((i + 1 : Nat) : Int) := by
  rw [quat_sum.l0, if_pos (by omega), if_pos (by omega), if_pos (by omega), add_eq, wrap_in (x := (i : Int) + 1) (by omega) (by omega)]
  simp only [Option.bind_some]
  congr 1
theorem sum_ev (a b c d : Int) : Ev (fun k => quat_sum.f k [a, b, c, d]) (addV (addV (addV (addV 0 a) b) c) d) := by
  refine qev_steps 5 fun k => ?_
  unfold quat_sum.f
  have s0 := sum_step (k + 4) 0 [a, b, c, d] 0 (by simp) (by simp)
  have s1 := sum_step (k + 3) (addV 0 a) [a, b, c, d] 1 (by simp) (by simp)
  have s2 := sum_step (k + 2) (addV (addV 0 a) b) [a, b, c, d] 2 (by simp) (by simp)
  have s3 := sum_step (k + 1) (addV (addV (addV 0 a) b) c) [a, b, c, d] 3 (by simp) (by simp)
  refine (s0.trans (s1.trans (s2.trans (s3.trans ?_))))
  rw [quat_sum.l0, if_neg (by simp)]
  rfl
theorem qmul_ev (a b c d e f g h : Int) : Ev (fun k => quat_Mul.f k a b c d e f g h)
    (addV (addV (addV (addV 0 (mulV a e)) (wrap64 (-(mulV b f)))) (wrap64 (-(mulV c g)))) (wrap64 (-(mulV d h))),
     addV (addV (addV (addV 0 (mulV a f)) (mulV b e)) (mulV c h)) (wrap64 (-(mulV d g))),
     addV (addV (addV (addV 0 (mulV a g)) (wrap64 (-(mulV b h)))) (mulV c e)) (mulV d f),
     addV (addV (addV (addV 0 (mulV a h)) (mulV b g)) (wrap64 (-(mulV c f)))) (mulV d e)) := by
  unfold quat_Mul.f
  refine Ev.bind (mul_ev _ _) (Ev.bind (mul_ev _ _) (Ev.bind (mul_ev _ _) (Ev.bind (mul_ev _ _) (Ev.bind (sum_ev _ _ _ _) ?_))))
  refine Ev.bind (mul_ev _ _) (Ev.bind (mul_ev _ _) (Ev.bind (mul_ev _ _) (Ev.bind (mul_ev _ _) (Ev.bind (sum_ev _ _ _ _) ?_))))
  refine Ev.bind (mul_ev _ _) (Ev.bind (mul_ev _ _) (Ev.bind (mul_ev _ _) (Ev.bind (mul_ev _ _) (Ev.bind (sum_ev _ _ _ _) ?_))))
  refine Ev.bind (mul_ev _ _) (Ev.bind (mul_ev _ _) (Ev.bind (mul_ev _ _) (Ev.bind (mul_ev _ _) (Ev.bind (sum_ev _ _ _ _) ?_))))
  exact Ev.now _

theorem rd_set (l : List Int) (i j : Nat) (v : Int) (hi : i < l.length) : rd (l.set i v) j = if j = i then v else rd l j := by
  unfold rd
  simp only [Int.toNat_natCast, List.getD_eq_getElem?_getD, List.getElem?_set]
  by_cases h : j = i
  · subst h; rw [if_pos rfl, if_pos rfl]; simp [hi]
  · rw [if_neg (fun e => h e.symm), if_neg h]
theorem rd_zero (n j : Nat) : rd (List.replicate n (0 : Int)) j = 0 := by
  unfold rd
  simp only [Int.toNat_natCast, List.getD_eq_getElem?_getD, List.getElem?_replicate]
  split <;> rfl

theorem l4_tot (x : Int) (h : ¬ wrap64 (2 * x) = 0) (n : Nat) (hn : n ≤ 100) : ∀ (d i : Nat) (out : List Int), out.length = n → i + d = n → ∃ R, Ev (fun k => quat_unit.l4 k out x n i) (R, true) ∧ R.length = n := by
  intro d
  induction d with
  | zero =>
    intro i out ho hi
    exact ⟨out, Ev.step (f := fun _ => some (out, true)) (fun k => by rw [quat_unit.l4, if_neg (by omega)]) (Ev.now _), ho⟩
  | succ d ih =>
    intro i out ho hi
    have w : wrap64 ((i : Int) + 1) = ((i + 1 : Nat) : Int) := by rw [wrap_in (by omega) (by omega)]; omega
    by_cases c1 : wrap64 (wrap64 (wrap64 (2 * rd out i) * 65536) + x) < 0
    · by_cases c2 : Int.tmod (wrap64 (wrap64 (wrap64 (2 * rd out i) * 65536) + x)) (wrap64 (2 * x)) = 0
      · obtain ⟨R, hR, hl⟩ := ih (i + 1) (out.set i (wrap64 (Int.tdiv (wrap64 (wrap64 (wrap64 (2 * rd out i) * 65536) + x)) (wrap64 (2 * x))))) (by simpa using ho) (by omega)
        refine ⟨R, Ev.step (fun k => ?_) hR, hl⟩
        rw [quat_unit.l4, if_pos (by omega), if_pos (by omega), if_pos (by omega), if_neg h]
        simp only [Option.bind_some, if_pos c1, if_pos c2, w, Int.toNat_natCast]
      · obtain ⟨R, hR, hl⟩ := ih (i + 1) ((out.set i (wrap64 (Int.tdiv (wrap64 (wrap64 (wrap64 (2 * rd out i) * 65536) + x)) (wrap64 (2 * x))))).set i (wrap64 (rd (out.set i (wrap64 (Int.tdiv (wrap64 (wrap64 (wrap64 (2 * rd out i) * 65536) + x)) (wrap64 (2 * x))))) i - 1))) (by simpa using ho) (by omega)
        refine ⟨R, Ev.step (fun k => ?_) hR, hl⟩
        rw [quat_unit.l4, if_pos (by omega), if_pos (by omega), if_pos (by omega), if_neg h]
        simp only [Option.bind_some, if_pos c1, if_neg c2, w, Int.toNat_natCast]
    · obtain ⟨R, hR, hl⟩ := ih (i + 1) (out.set i (wrap64 (Int.tdiv (wrap64 (wrap64 (wrap64 (2 * rd out i) * 65536) + x)) (wrap64 (2 * x))))) (by simpa using ho) (by omega)
      refine ⟨R, Ev.step (fun k => ?_) hR, hl⟩
      rw [quat_unit.l4, if_pos (by omega), if_pos (by omega), if_pos (by omega), if_neg h]
      simp only [Option.bind_some, if_neg c1, w, Int.toNat_natCast]

theorem l3_tot (out : List Int) (n : Nat) (hn : n ≤ 100) (ho : out.length = n) (hb : ∀ j : Nat, j < n → -2199023255552 ≤ rd out j ∧ rd out j ≤ 2199023255552) (hz : ∃ j : Nat, j < n ∧ rd out j ≠ 0) :
    ∀ (d i : Nat) (hi lo : Int), i + d = n → 0 ≤ lo → lo < 18446744073709551616 → 0 ≤ hi → hi * 18446744073709551616 + lo ≤ i * 4835703278458516698824704 → ((∃ j : Nat, j < i ∧ rd out j ≠ 0) → 1 ≤ hi * 18446744073709551616 + lo) →
      ∃ R, Ev (fun k => quat_unit.l3 k out hi lo out n i) (R, true) ∧ R.length = n := by
  intro d
  induction d with
  | zero =>
    intro i hi lo hd hl0 hl1 hh0 hS hnz
    have hS1 := hnz (by obtain ⟨j, h1, h2⟩ := hz; exact ⟨j, by omega, h2⟩)
    have hi2 : hi < 18446744073709551616 := by omega
    obtain ⟨r, ⟨r0, r1, r2, r3⟩, hr⟩ := root_ev hi lo hh0 hi2 hl0 hl1
    have rr : 1 ≤ r := by
      have : 1 < r + 1 := sq_lt (by omega) (by omega)
      omega
    have rb : r ≤ 1125899906842624 := by
      refine sq_le (by omega) ?_
      omega
    obtain ⟨R, hR, hl⟩ := l4_tot r (by rw [wrap_in (by omega) (by omega)]; omega) n hn n 0 out ho (by omega)
    refine ⟨R, Ev.step (fun k => by rw [quat_unit.l3, if_neg (by omega)]) (Ev.bind hr ?_), hl⟩
    rw [wrap_in (by omega) (by omega), ho]
    exact hR
  | succ d ih =>
    intro i hi lo hd hl0 hl1 hh0 hS hnz
    have w : wrap64 ((i : Int) + 1) = ((i + 1 : Nat) : Int) := by rw [wrap_in (by omega) (by omega)]; omega
    have hx := hb i (by omega)
    have hs : ∀ k, quat_unit.l3 (k + 1) out hi lo out n i = (bits_Mul64.f (IntKind.u64.wrap (mx (rd out i) (wrap64 (-(rd out i))))) (IntKind.u64.wrap (mx (rd out i) (wrap64 (-(rd out i)))))).bind fun bt => if add64hi lo bt.2 0 ≤ 1 then quat_unit.l3 k out (add64lo hi bt.1 (add64hi lo bt.2 0)) (add64lo lo bt.2 0) out n ((i + 1 : Nat) : Int) else none := by
      intro k
      rw [quat_unit.l3, if_pos (by omega), if_pos (by omega), if_pos (by omega), w]
    have hm : IntKind.u64.wrap (mx (rd out i) (wrap64 (-(rd out i)))) = absV (rd out i) := by
      rw [wrap_in (by omega) (by omega)]
      unfold mx absV
      rw [uwrap_in (by split <;> omega) (by split <;> omega)]
      split <;> split <;> omega
    rw [hm] at hs
    have a0 := absV_nn (rd out i)
    have a1 := absV_le hx.1 hx.2
    have asq := absV_sq (rd out i)
    have t0 : 0 ≤ absV (rd out i) * absV (rd out i) := Int.mul_nonneg a0 a0
    have t1 : absV (rd out i) * absV (rd out i) ≤ 2199023255552 * 2199023255552 := Int.mul_le_mul a1 a1 a0 (by omega)
    have tnz : rd out i ≠ 0 → 1 ≤ absV (rd out i) * absV (rd out i) := by
      intro h
      have : 1 ≤ absV (rd out i) := by unfold absV; split <;> omega
      have := Int.mul_le_mul this this (by omega) a0
      omega
    rw [mul_eq _ _ a0 (by omega) a0 (by omega)] at hs
    simp only [Option.bind_some] at hs
    generalize absV (rd out i) * absV (rd out i) = t at *
    have key : ∃ c lo' hi' : Int, add64hi lo (t % 18446744073709551616) 0 = c ∧ add64lo lo (t % 18446744073709551616) 0 = lo' ∧ add64lo hi (t / 18446744073709551616) c = hi' ∧ 0 ≤ c ∧ c ≤ 1 ∧ 0 ≤ lo' ∧ lo' < 18446744073709551616 ∧ 0 ≤ hi' ∧ hi' * 18446744073709551616 + lo' = hi * 18446744073709551616 + lo + t := by
      have q0 : 0 ≤ t / 18446744073709551616 := by omega
      have q1 : 0 ≤ t % 18446744073709551616 ∧ t % 18446744073709551616 < 18446744073709551616 := by omega
      have q2 : t / 18446744073709551616 * 18446744073709551616 + t % 18446744073709551616 = t := by omega
      have q3 : t / 18446744073709551616 < 1000000 := by omega
      have q4 : hi < 1000000000 := by omega
      generalize t / 18446744073709551616 = u at *
      generalize t % 18446744073709551616 = v at *
      have eh := add64hi_eq lo v 0 hl0 q1.1 (by omega)
      have el := add64lo_eq lo v 0 hl0 q1.1 (by omega)
      clear hs hb hz hnz tnz t0 t1 asq a0 a1 hx hS hm ih
      refine ⟨_, _, _, rfl, rfl, rfl, ?_⟩
      have hc : 0 ≤ add64hi lo v 0 ∧ add64hi lo v 0 ≤ 1 ∧ 0 ≤ add64lo lo v 0 ∧ add64lo lo v 0 < 18446744073709551616 ∧ add64hi lo v 0 * 18446744073709551616 + add64lo lo v 0 = lo + v := by rw [eh, el]; omega
      clear eh el
      generalize add64hi lo v 0 = c at *
      generalize add64lo lo v 0 = l' at *
      have e2 := add64lo_eq hi u c hh0 q0 hc.1
      have e3 : add64lo hi u c = hi + u + c := by rw [e2]; omega
      rw [e3]
      omega
    obtain ⟨c, lo', hi', k1, k2, k3, k4, k5, k6, k7, k8, k9⟩ := key
    have hs2 : ∀ k, quat_unit.l3 (k + 1) out hi lo out n i = quat_unit.l3 k out hi' lo' out n ((i + 1 : Nat) : Int) := by
      intro k
      rw [hs, k1, k2, k3, if_pos k5]
    obtain ⟨R, hR, hl⟩ := ih (i + 1) hi' lo' (by omega) k6 k7 k8 (by omega) (by
      rintro ⟨j, h1, h2⟩
      rw [k9]
      by_cases hj : j = i
      · subst hj
        have := tnz h2
        omega
      · have := hnz ⟨j, by omega, h2⟩
        omega)
    exact ⟨R, Ev.step hs2 hR, hl⟩

theorem l2_tot (n : Nat) (hn : n ≤ 100) (m : Int) (hm : 1 ≤ m ∧ m < 1073741824) (hc : ∀ out : List Int, out.length = n → (∀ j : Nat, j < n → -(2 * m) ≤ rd out j ∧ rd out j ≤ 2 * m) → (∃ j : Nat, j < n ∧ rd out j ≠ 0) → ∃ R, Ev (fun k => quat_unit.l1 k (2 * m) out) (R, true) ∧ R.length = n) :
    ∀ (d i : Nat) (cur : List Int), i + d = n → cur.length = n → (∀ j : Nat, j < n → (-(2 * m) ≤ rd cur j ∧ rd cur j ≤ 2 * m) ∧ (i ≤ j → -m ≤ rd cur j ∧ rd cur j ≤ m)) → (∃ j : Nat, j < n ∧ rd cur j ≠ 0) → ∃ R, Ev (fun k => quat_unit.l2 k m cur n i) (R, true) ∧ R.length = n := by
  intro d
  induction d with
  | zero =>
    intro i cur hd hl hb hz
    obtain ⟨R, hR, h⟩ := hc cur hl (fun j hj => (hb j hj).1) hz
    exact ⟨R, Ev.step (fun k => by rw [quat_unit.l2, if_neg (by omega), wrap_in (x := m * 2) (by omega) (by omega), Int.mul_comm m 2]) hR, h⟩
  | succ d ih =>
    intro i cur hd hl hb hz
    have w : wrap64 ((i : Int) + 1) = ((i + 1 : Nat) : Int) := by rw [wrap_in (by omega) (by omega)]; omega
    have hi := (hb i (by omega)).2 (Nat.le_refl _)
    have w2 : wrap64 (rd cur i * 2) = rd cur i * 2 := wrap_in (by omega) (by omega)
    obtain ⟨R, hR, h⟩ := ih (i + 1) (cur.set i (rd cur i * 2)) (by omega) (by simpa using hl) (by
      intro j hj
      rw [rd_set _ _ _ _ (by omega)]
      by_cases c : j = i
      · subst c; rw [if_pos rfl]; omega
      · rw [if_neg c]; exact ⟨(hb j hj).1, fun h => (hb j hj).2 (by omega)⟩) (by
      obtain ⟨j, h1, h2⟩ := hz
      refine ⟨j, h1, ?_⟩
      rw [rd_set _ _ _ _ (by omega)]
      by_cases c : j = i
      · subst c; rw [if_pos rfl]; omega
      · rw [if_neg c]; exact h2)
    exact ⟨R, Ev.step (fun k => by rw [quat_unit.l2, if_pos (by omega), if_pos (by omega), if_pos (by omega), w, w2, Int.toNat_natCast]) hR, h⟩

theorem l1_tot (n : Nat) (hn : n ≤ 100) : ∀ (d : Nat) (m : Int) (out : List Int), 1 ≤ m → m ≤ 2199023255552 → 1073741824 ≤ m * 2 ^ d → out.length = n → (∀ j : Nat, j < n → -m ≤ rd out j ∧ rd out j ≤ m) → (∃ j : Nat, j < n ∧ rd out j ≠ 0) → ∃ R, Ev (fun k => quat_unit.l1 k m out) (R, true) ∧ R.length = n := by
  intro d
  have big : ∀ (m : Int) (out : List Int), 1073741824 ≤ m → m ≤ 2199023255552 → out.length = n → (∀ j : Nat, j < n → -m ≤ rd out j ∧ rd out j ≤ m) → (∃ j : Nat, j < n ∧ rd out j ≠ 0) → ∃ R, Ev (fun k => quat_unit.l1 k m out) (R, true) ∧ R.length = n := by
    intro m out h1 h2 hl hb hz
    obtain ⟨R, hR, h⟩ := l3_tot out n hn hl (fun j hj => by have := hb j hj; omega) hz n 0 0 0 (by omega) (by omega) (by omega) (by omega) (by omega) (by rintro ⟨j, h, _⟩; omega)
    exact ⟨R, Ev.step (fun k => by rw [quat_unit.l1, if_neg (by omega), hl]; rfl) hR, h⟩
  induction d with
  | zero => intro m out h1 h2 h3 hl hb hz; exact big m out (by simpa using h3) h2 hl hb hz
  | succ d ih =>
    intro m out h1 h2 h3 hl hb hz
    by_cases c : 1073741824 ≤ m
    · exact big m out c h2 hl hb hz
    · obtain ⟨R, hR, h⟩ := l2_tot n hn m ⟨h1, by omega⟩ (fun o h4 h5 h6 => ih (2 * m) o (by omega) (by omega) (by rw [Int.mul_comm 2 m, Int.mul_assoc, ← Int.pow_succ']; exact h3) h4 h5 h6) n 0 out (by omega) hl (fun j hj => by have := hb j hj; exact ⟨by omega, fun _ => this⟩) hz
      exact ⟨R, Ev.step (fun k => by rw [quat_unit.l1, if_pos (by omega), hl]; rfl) hR, h⟩

theorem l0_tot (l : List Int) (n : Nat) (hn : n ≤ 100) (hln : l.length = n) : ∀ (d i : Nat) (m : Int) (out : List Int), i + d = n → out.length = n → 0 ≤ m → m ≤ 1099511627776 → (∀ j : Nat, j < n → (-m ≤ rd out j ∧ rd out j ≤ m) ∧ (i ≤ j → rd out j = 0)) → (m = 0 ∨ ∃ j : Nat, j < n ∧ rd out j ≠ 0) →
    ∃ R b, Ev (fun k => quat_unit.l0 k m out l n i) (R, b) ∧ (b = true → R.length = n) := by
  intro d
  induction d with
  | zero =>
    intro i m out hd hl h0 h1 hb hz
    by_cases c : m = 0
    · exact ⟨[], false, Ev.step (f := fun _ => some ([], false)) (fun k => by rw [quat_unit.l0, if_neg (by omega), if_pos c]) (Ev.now _), by simp⟩
    · obtain ⟨R, hR, h⟩ := l1_tot n hn 30 m out (by omega) (by omega) (by
        have e : (2 : Int) ^ 30 = 1073741824 := by decide
        rw [e]; omega) hl (fun j hj => (hb j hj).1) (by rcases hz with hz | hz; exact absurd hz c; exact hz)
      exact ⟨R, true, Ev.step (fun k => by rw [quat_unit.l0, if_neg (by omega), if_neg c]) hR, fun _ => h⟩
  | succ d ih =>
    intro i m out hd hl h0 h1 hb hz
    have w : wrap64 ((i : Int) + 1) = ((i + 1 : Nat) : Int) := by rw [wrap_in (by omega) (by omega)]; omega
    have hcl := clampV_le (rd l i)
    have hs : ∀ k, quat_unit.l0 (k + 1) m out l n i = quat_unit.l0 k (mx (mx m (clampV (rd l i))) (-(clampV (rd l i)))) (out.set i (clampV (rd l i))) l n ((i + 1 : Nat) : Int) := by
      intro k
      rw [quat_unit.l0, if_pos (by omega), if_pos (by omega), if_pos (by omega), clamp_eq]
      simp only [Option.bind_some, w, Int.toNat_natCast, rd_set out i i _ (show i < out.length by omega), if_true]
      rw [if_pos (by omega), wrap_in (by omega) (by omega)]
    generalize clampV (rd l i) = c at *
    have hmx : (mx (mx m c) (-c) = m ∧ -m ≤ c ∧ c ≤ m) ∨ (mx (mx m c) (-c) > m ∧ c ≠ 0 ∧ (mx (mx m c) (-c) = c ∨ mx (mx m c) (-c) = -c)) := by
      unfold mx
      (repeat' split) <;> omega
    have hge : m ≤ mx (mx m c) (-c) ∧ -(mx (mx m c) (-c)) ≤ c ∧ c ≤ mx (mx m c) (-c) := by
      unfold mx
      (repeat' split) <;> omega
    generalize mx (mx m c) (-c) = m' at *
    obtain ⟨R, b, hR, h⟩ := ih (i + 1) m' (out.set i c) (by omega) (by simpa using hl) (by omega) (by omega) (by
      intro j hj
      rw [rd_set _ _ _ _ (by omega)]
      by_cases e : j = i
      · rw [if_pos e]; exact ⟨by omega, fun h => by omega⟩
      · rw [if_neg e]
        have := hb j hj
        exact ⟨by omega, fun h => this.2 (by omega)⟩) (by
      rcases hmx with ⟨e1, _⟩ | ⟨_, e2, _⟩
      · rcases hz with hz | ⟨j, h3, h4⟩
        · left; omega
        · right
          refine ⟨j, h3, ?_⟩
          rw [rd_set _ _ _ _ (by omega), if_neg]
          · exact h4
          · rintro rfl; exact h4 ((hb j h3).2 (Nat.le_refl _))
      · right
        exact ⟨i, by omega, by rw [rd_set _ _ _ _ (by omega), if_pos rfl]; exact e2⟩)
    exact ⟨R, b, Ev.step hs hR, h⟩

theorem unit_tot (l : List Int) (hl : l.length ≤ 100) : ∃ R b, Ev (fun k => quat_unit.f k l) (R, b) ∧ (b = true → R.length = l.length) := by
  unfold quat_unit.f
  obtain ⟨R, b, hR, h⟩ := l0_tot l l.length hl rfl l.length 0 0 (List.replicate l.length 0) (by omega) (by simp) (by omega) (by omega) (fun j _ => ⟨by rw [rd_zero]; omega, fun _ => rd_zero _ _⟩) (.inl rfl)
  refine ⟨R, b, ?_, h⟩
  simp only [if_pos (show (0 : Int) ≤ ((l.length : Nat) : Int) by omega), Int.toNat_natCast, if_pos (show l.length ≤ 35184372088832 by omega)]
  exact hR
theorem qunit_total (a b c d : Int) : ∃ r, Ev (fun k => quat_Unit.f k a b c d) r := by
  obtain ⟨R, z, hR, h⟩ := unit_tot [a, b, c, d] (by simp)
  unfold quat_Unit.f
  cases z
  · exact ⟨_, Ev.bind hR (by simp only [Bool.false_eq_true, if_false]; exact Ev.now _)⟩
  · have hl := h rfl
    have h4 : R.length = 4 := by simpa using hl
    exact ⟨_, Ev.bind hR (by
      simp only [if_true, if_pos (show (0 : Int) < (R.length : Int) by omega), if_pos (show (1 : Int) < (R.length : Int) by omega), if_pos (show (2 : Int) < (R.length : Int) by omega), if_pos (show (3 : Int) < (R.length : Int) by omega)]
      exact Ev.now _)⟩
noncomputable def qunitV (a b c d : Int) : Int × Int × Int × Int := val fun k => quat_Unit.f k a b c d
theorem qunit_ev (a b c d : Int) : Ev (fun k => quat_Unit.f k a b c d) (qunitV a b c d) := val_ev (qunit_total a b c d)
end Go.Proofs.Ytfallkiaojefnaa.QUnitBonesLong
