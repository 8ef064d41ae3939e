/- What quat.unit comes to, exactly: rounded quotients by the floor of a root. Under no condition but what stands at each. -/
import Derived.Test.YtfallkiaojefnaaQUnitBonesLong
namespace Go.Proofs.Ytfallkiaojefnaa.QExactBonesLong
open Go.RowKit Go.Proofs.YtfallkiaojefnaaW.PrintWords Go.Proofs.YtfallkiaojefnaaW.PrintLast Go.Proofs.YtfallkiaojefnaaW.PrintMore Go.Proofs.Ytfallkiaojefnaa.Ext Go.Proofs.Ytfallkiaojefnaa.PBonesLong Go.Proofs.Ytfallkiaojefnaa.NumBonesLong Go.Proofs.Ytfallkiaojefnaa.QUnitBonesLong
set_option linter.unusedVariables false
theorem floor_of (y x : Int) (hx : 0 < x) : (if y < 0 then (if Int.tmod y x = 0 then Int.tdiv y x else Int.tdiv y x - 1) else Int.tdiv y x) = y / x := by
  by_cases h : y < 0
  · rw [if_pos h]
    have e := Int.mul_tdiv_add_tmod y x
    have t0 : Int.tmod y x ≤ 0 := by
      have h1 := Int.tmod_nonneg (a := -y) x (by omega)
      rw [Int.neg_tmod] at h1; omega
    have t1 : -x < Int.tmod y x := by
      have h1 := Int.tmod_lt_of_pos (-y) hx
      rw [Int.neg_tmod] at h1; omega
    generalize Int.tdiv y x = q at *
    generalize Int.tmod y x = t at *
    by_cases c : t = 0
    · rw [if_pos c, ← e, c, Int.add_zero, Int.mul_ediv_cancel_left _ (by omega)]
    · rw [if_neg c, ← e, Int.add_comm, Int.add_mul_ediv_left _ _ (by omega)]
      have : t / x = -1 := by
        have h1 : t = (t + x) + x * (-1) := by omega
        rw [h1, Int.add_mul_ediv_left _ _ (by omega), Int.ediv_eq_zero_of_lt (by omega) (by omega)]; rfl
      omega
  · rw [if_neg h, Int.tdiv_eq_ediv_of_nonneg (by omega)]
/-- A rounded quotient. -/
def qv (n r : Int) : Int := (2 * n * 65536 + r) / (2 * r)
def sqs (l : List Int) : Nat → Int
  | 0 => 0
  | i + 1 => sqs l i + rd l i * rd l i
theorem qv_range (n r : Int) (hr : 1 ≤ r) (hr1 : r ≤ 4503599627370496) (h0 : -2199023255552 ≤ n) (h1 : n ≤ 2199023255552) : -576460752303423488 ≤ qv n r ∧ qv n r ≤ 576460752303423488 := by
  unfold qv
  constructor
  · rw [Int.le_ediv_iff_mul_le (by omega)]
    have : (-576460752303423488) * (2 * r) ≤ (-576460752303423488) * 2 := by omega
    omega
  · have : (2 * n * 65536 + r) / (2 * r) < 576460752303423489 := by
      rw [Int.ediv_lt_iff_lt_mul (by omega)]
      omega
    omega
theorem l4_ex (x : Int) (hx : 1 ≤ x) (hx1 : x ≤ 4503599627370496) (n : Nat) (hn : n ≤ 100) : ∀ (d i : Nat) (out : List Int), out.length = n → i + d = n → (∀ j : Nat, i ≤ j → j < n → -2199023255552 ≤ rd out j ∧ rd out j ≤ 2199023255552) →
    ∃ R, Ev (fun k => quat_unit.l4 k out x n i) (R, true) ∧ R.length = n ∧ ∀ j : Nat, j < n → rd R j = if i ≤ j then qv (rd out j) x else rd out j := by
  intro d
  induction d with
  | zero =>
    intro i out ho hi hb
    exact ⟨out, Ev.step (f := fun _ => some (out, true)) (fun k => by rw [quat_unit.l4, if_neg (by omega)]) (Ev.now _), ho, fun j hj => by rw [if_neg (by omega)]⟩
  | succ d ih =>
    intro i out ho hi hb
    have w : wrap64 ((i : Int) + 1) = ((i + 1 : Nat) : Int) := by rw [wrap_in (by omega) (by omega)]; omega
    have hbi := hb i (Nat.le_refl _) (by omega)
    have w1 : wrap64 (wrap64 (wrap64 (2 * rd out i) * 65536) + x) = 2 * rd out i * 65536 + x := by
      rw [wrap_in (x := 2 * rd out i) (by omega) (by omega), wrap_in (x := 2 * rd out i * 65536) (by omega) (by omega), wrap_in (by omega) (by omega)]
    have w2 : wrap64 (2 * x) = 2 * x := wrap_in (by omega) (by omega)
    have hq := qv_range (rd out i) x hx hx1 hbi.1 hbi.2
    have hf := floor_of (2 * rd out i * 65536 + x) (2 * x) (by omega)
    have hqv : qv (rd out i) x = (2 * rd out i * 65536 + x) / (2 * x) := rfl
    rw [← hqv] at hf
    have go : ∀ o : List Int, o.length = n → (∀ j : Nat, j < n → rd o j = if j = i then qv (rd out i) x else rd out j) → ∃ R, Ev (fun k => quat_unit.l4 k o x n ((i + 1 : Nat) : Int)) (R, true) ∧ R.length = n ∧ ∀ j : Nat, j < n → rd R j = if i ≤ j then qv (rd out j) x else rd out j := by
      intro o h1 h2
      obtain ⟨R, hR, hl, hv⟩ := ih (i + 1) o h1 (by omega) (fun j hj hjn => by rw [h2 j hjn, if_neg (by omega)]; exact hb j (by omega) hjn)
      refine ⟨R, hR, hl, fun j hj => ?_⟩
      rw [hv j hj, h2 j hj]
      by_cases c : j = i
      · subst c; rw [if_neg (by omega), if_pos rfl, if_pos (Nat.le_refl _)]
      · rw [if_neg c]
        by_cases e : i ≤ j
        · rw [if_pos (by omega), if_pos e]
        · rw [if_neg (by omega), if_neg e]
    by_cases c1 : 2 * rd out i * 65536 + x < 0
    · rw [if_pos c1] at hf
      by_cases c2 : Int.tmod (2 * rd out i * 65536 + x) (2 * x) = 0
      · rw [if_pos c2] at hf
        obtain ⟨R, hR, h⟩ := go (out.set i (qv (rd out i) x)) (by simpa using ho) (fun j hj => rd_set _ _ _ _ (by omega))
        refine ⟨R, Ev.step (fun k => ?_) hR, h⟩
        rw [quat_unit.l4, if_pos (by omega), if_pos (by omega), if_pos (by omega), w1, w2, if_neg (by omega), hf]
        simp only [Option.bind_some, if_pos c1, if_pos c2, w, Int.toNat_natCast]
        rw [wrap_in (x := qv (rd out i) x) (by omega) (by omega)]
      · rw [if_neg c2] at hf
        obtain ⟨R, hR, h⟩ := go ((out.set i (qv (rd out i) x + 1)).set i (qv (rd out i) x)) (by simpa using ho) (fun j hj => by rw [rd_set _ _ _ _ (by simpa using by omega), rd_set _ _ _ _ (by omega)]; split <;> rfl)
        refine ⟨R, Ev.step (fun k => ?_) hR, h⟩
        rw [quat_unit.l4, if_pos (by omega), if_pos (by omega), if_pos (by omega), w1, w2, if_neg (by omega), show Int.tdiv (2 * rd out i * 65536 + x) (2 * x) = qv (rd out i) x + 1 from by omega]
        simp only [Option.bind_some, if_pos c1, if_neg c2, w, Int.toNat_natCast]
        rw [wrap_in (x := qv (rd out i) x + 1) (by omega) (by omega), rd_set _ _ _ _ (by omega), if_pos rfl, show qv (rd out i) x + 1 - 1 = qv (rd out i) x from by omega, wrap_in (x := qv (rd out i) x) (by omega) (by omega)]
    · rw [if_neg c1] at hf
      obtain ⟨R, hR, h⟩ := go (out.set i (qv (rd out i) x)) (by simpa using ho) (fun j hj => rd_set _ _ _ _ (by omega))
      refine ⟨R, Ev.step (fun k => ?_) hR, h⟩
      rw [quat_unit.l4, if_pos (by omega), if_pos (by omega), if_pos (by omega), w1, w2, if_neg (by omega), hf]
      simp only [Option.bind_some, if_neg c1, w, Int.toNat_natCast]
      rw [wrap_in (x := qv (rd out i) x) (by omega) (by omega)]
/-- What a unit is. -/
def Unit_ (n : Nat) (out R : List Int) : Prop := R.length = n ∧ ∃ r : Int, 1 ≤ r ∧ r * r ≤ sqs out n ∧ sqs out n < (r + 1) * (r + 1) ∧ ∀ j : Nat, j < n → rd R j = qv (rd out j) r
theorem l3_ex (out : List Int) (n : Nat) (hn : n ≤ 100) (ho : out.length = n) (hb : ∀ j : Nat, j < n → -2199023255552 ≤ rd out j ∧ rd out j ≤ 2199023255552) (hz : ∃ j : Nat, j < n ∧ rd out j ≠ 0) :
    ∀ (d i : Nat) (hi lo : Int), i + d = n → 0 ≤ lo → lo < 18446744073709551616 → 0 ≤ hi → hi * 18446744073709551616 + lo ≤ i * 4835703278458516698824704 → ((∃ j : Nat, j < i ∧ rd out j ≠ 0) → 1 ≤ hi * 18446744073709551616 + lo) → hi * 18446744073709551616 + lo = sqs out i →
      ∃ R, Ev (fun k => quat_unit.l3 k out hi lo out n i) (R, true) ∧ Unit_ n out R := by
  intro d
  induction d with
  | zero =>
    intro i hi lo hd hl0 hl1 hh0 hS hnz hsq
    have hS1 := hnz (by obtain ⟨j, h1, h2⟩ := hz; exact ⟨j, by omega, h2⟩)
    have hi2 : hi < 18446744073709551616 := by omega
    obtain ⟨r, ⟨r0, r1, r2, r3⟩, hr⟩ := root_ev hi lo hh0 hi2 hl0 hl1
    have rr : 1 ≤ r := by
      have : 1 < r + 1 := sq_lt (by omega) (by omega)
      omega
    have rb : r ≤ 1125899906842624 := by
      refine sq_le (by omega) ?_
      omega
    obtain ⟨R, hR, hl, hv⟩ := l4_ex r rr (by omega) n hn n 0 out ho (by omega) (fun j _ hj => hb j hj)
    obtain rfl : i = n := by omega
    refine ⟨R, Ev.step (fun k => by rw [quat_unit.l3, if_neg (by omega)]) (Ev.bind hr ?_), hl, r, rr, by omega, by omega, fun j hj => by rw [hv j hj, if_pos (Nat.zero_le _)]⟩
    rw [wrap_in (by omega) (by omega), ho]
    exact hR
  | succ d ih =>
    intro i hi lo hd hl0 hl1 hh0 hS hnz hsq
    have w : wrap64 ((i : Int) + 1) = ((i + 1 : Nat) : Int) := by rw [wrap_in (by omega) (by omega)]; omega
    have hx := hb i (by omega)
    have hs : ∀ k, quat_unit.l3 (k + 1) out hi lo out n i = (bits_Mul64.f (IntKind.u64.wrap (mx (rd out i) (wrap64 (-(rd out i))))) (IntKind.u64.wrap (mx (rd out i) (wrap64 (-(rd out i)))))).bind fun bt => if add64hi lo bt.2 0 ≤ 1 then quat_unit.l3 k out (add64lo hi bt.1 (add64hi lo bt.2 0)) (add64lo lo bt.2 0) out n ((i + 1 : Nat) : Int) else none := by
      intro k
      rw [quat_unit.l3, if_pos (by omega), if_pos (by omega), if_pos (by omega), w]
    have hm : IntKind.u64.wrap (mx (rd out i) (wrap64 (-(rd out i)))) = absV (rd out i) := by
      rw [wrap_in (by omega) (by omega)]
      unfold mx absV
      rw [uwrap_in (by split <;> omega) (by split <;> omega)]
      split <;> split <;> omega
    rw [hm] at hs
    have a0 := absV_nn (rd out i)
    have a1 := absV_le hx.1 hx.2
    have asq := absV_sq (rd out i)
    have t0 : 0 ≤ absV (rd out i) * absV (rd out i) := Int.mul_nonneg a0 a0
    have t1 : absV (rd out i) * absV (rd out i) ≤ 2199023255552 * 2199023255552 := Int.mul_le_mul a1 a1 a0 (by omega)
    have tnz : rd out i ≠ 0 → 1 ≤ absV (rd out i) * absV (rd out i) := by
      intro h
      have : 1 ≤ absV (rd out i) := by unfold absV; split <;> omega
      have := Int.mul_le_mul this this (by omega) a0
      omega
    rw [mul_eq _ _ a0 (by omega) a0 (by omega)] at hs
    simp only [Option.bind_some] at hs
    have hsq1 : sqs out (i + 1) = sqs out i + absV (rd out i) * absV (rd out i) := by rw [asq]; rfl
    generalize absV (rd out i) * absV (rd out i) = t at *
    have key : ∃ c lo' hi' : Int, add64hi lo (t % 18446744073709551616) 0 = c ∧ add64lo lo (t % 18446744073709551616) 0 = lo' ∧ add64lo hi (t / 18446744073709551616) c = hi' ∧ 0 ≤ c ∧ c ≤ 1 ∧ 0 ≤ lo' ∧ lo' < 18446744073709551616 ∧ 0 ≤ hi' ∧ hi' * 18446744073709551616 + lo' = hi * 18446744073709551616 + lo + t := by
      have q0 : 0 ≤ t / 18446744073709551616 := by omega
      have q1 : 0 ≤ t % 18446744073709551616 ∧ t % 18446744073709551616 < 18446744073709551616 := by omega
      have q2 : t / 18446744073709551616 * 18446744073709551616 + t % 18446744073709551616 = t := by omega
      have q3 : t / 18446744073709551616 < 1000000 := by omega
      have q4 : hi < 1000000000 := by omega
      generalize t / 18446744073709551616 = u at *
      generalize t % 18446744073709551616 = v at *
      have eh := add64hi_eq lo v 0 hl0 q1.1 (by omega)
      have el := add64lo_eq lo v 0 hl0 q1.1 (by omega)
      clear hs hb hz hnz tnz t0 t1 asq a0 a1 hx hS hm ih hsq1
      refine ⟨_, _, _, rfl, rfl, rfl, ?_⟩
      have hc : 0 ≤ add64hi lo v 0 ∧ add64hi lo v 0 ≤ 1 ∧ 0 ≤ add64lo lo v 0 ∧ add64lo lo v 0 < 18446744073709551616 ∧ add64hi lo v 0 * 18446744073709551616 + add64lo lo v 0 = lo + v := by rw [eh, el]; omega
      clear eh el
      generalize add64hi lo v 0 = c at *
      generalize add64lo lo v 0 = l' at *
      have e2 := add64lo_eq hi u c hh0 q0 hc.1
      have e3 : add64lo hi u c = hi + u + c := by rw [e2]; omega
      rw [e3]
      omega
    obtain ⟨c, lo', hi', k1, k2, k3, k4, k5, k6, k7, k8, k9⟩ := key
    have hs2 : ∀ k, quat_unit.l3 (k + 1) out hi lo out n i = quat_unit.l3 k out hi' lo' out n ((i + 1 : Nat) : Int) := by
      intro k
      rw [hs, k1, k2, k3, if_pos k5]
    obtain ⟨R, hR, hl⟩ := ih (i + 1) hi' lo' (by omega) k6 k7 k8 (by omega) (by
      rintro ⟨j, h1, h2⟩
      rw [k9]
      by_cases hj : j = i
      · subst hj
        have := tnz h2
        omega
      · have := hnz ⟨j, by omega, h2⟩
        omega) (by rw [k9, hsq1]; omega)
    exact ⟨R, Ev.step hs2 hR, hl⟩
theorem l2_ex (n : Nat) (hn : n ≤ 100) (m : Int) (hm : 1 ≤ m ∧ m < 1073741824) (X : List Int × Bool) : ∀ (d i : Nat) (cur : List Int), i + d = n → cur.length = n → (∀ j : Nat, j < n → i ≤ j → -m ≤ rd cur j ∧ rd cur j ≤ m) →
    (∀ out : List Int, out.length = n → (∀ j : Nat, j < n → rd out j = if i ≤ j then rd cur j * 2 else rd cur j) → Ev (fun k => quat_unit.l1 k (2 * m) out) X) → Ev (fun k => quat_unit.l2 k m cur n i) X := by
  intro d
  induction d with
  | zero =>
    intro i cur hd hl hb hc
    exact Ev.step (fun k => by rw [quat_unit.l2, if_neg (by omega), wrap_in (x := m * 2) (by omega) (by omega), Int.mul_comm m 2]) (hc cur hl fun j hj => by rw [if_neg (by omega)])
  | succ d ih =>
    intro i cur hd hl hb hc
    have w : wrap64 ((i : Int) + 1) = ((i + 1 : Nat) : Int) := by rw [wrap_in (by omega) (by omega)]; omega
    have hi := hb i (by omega) (Nat.le_refl _)
    have w2 : wrap64 (rd cur i * 2) = rd cur i * 2 := wrap_in (by omega) (by omega)
    have h := ih (i + 1) (cur.set i (rd cur i * 2)) (by omega) (by simpa using hl) (fun j hj hij => by
      rw [rd_set _ _ _ _ (by omega), if_neg (by omega)]
      exact hb j hj (by omega)) (fun out ho hv => hc out ho fun j hj => by
        rw [hv j hj, rd_set _ _ _ _ (by omega)]
        by_cases c : j = i
        · subst c; rw [if_neg (by omega), if_pos rfl, if_pos (Nat.le_refl _)]
        · rw [if_neg c]
          by_cases e : i ≤ j
          · rw [if_pos (by omega), if_pos e]
          · rw [if_neg (by omega), if_neg e])
    exact Ev.step (fun k => by rw [quat_unit.l2, if_pos (by omega), if_pos (by omega), if_pos (by omega), w, w2, Int.toNat_natCast]) h
theorem l1_ex (n : Nat) (hn : n ≤ 100) : ∀ (d : Nat) (m : Int) (out : List Int), 1 ≤ m → m ≤ 2199023255552 → 1073741824 ≤ m * 2 ^ d → out.length = n → (∀ j : Nat, j < n → -m ≤ rd out j ∧ rd out j ≤ m) → (∃ j : Nat, j < n ∧ rd out j ≠ 0) →
    ∃ (R out' : List Int) (s : Nat), Ev (fun k => quat_unit.l1 k m out) (R, true) ∧ Unit_ n out' R ∧ (∀ j : Nat, j < n → rd out' j = rd out j * 2 ^ s) ∧ 1073741824 ≤ m * 2 ^ s := by
  intro d
  have big : ∀ (m : Int) (out : List Int), 1073741824 ≤ m → m ≤ 2199023255552 → out.length = n → (∀ j : Nat, j < n → -m ≤ rd out j ∧ rd out j ≤ m) → (∃ j : Nat, j < n ∧ rd out j ≠ 0) →
      ∃ (R out' : List Int) (s : Nat), Ev (fun k => quat_unit.l1 k m out) (R, true) ∧ Unit_ n out' R ∧ (∀ j : Nat, j < n → rd out' j = rd out j * 2 ^ s) ∧ 1073741824 ≤ m * 2 ^ s := by
    intro m out h1 h2 hl hb hz
    obtain ⟨R, hR, h⟩ := l3_ex out n hn hl (fun j hj => by have := hb j hj; omega) hz n 0 0 0 (by omega) (by omega) (by omega) (by omega) (by omega) (by rintro ⟨j, h, _⟩; omega) rfl
    exact ⟨R, out, 0, Ev.step (fun k => by rw [quat_unit.l1, if_neg (by omega), hl]; rfl) hR, h, fun j hj => by simp, by simpa using h1⟩
  induction d with
  | zero => intro m out h1 h2 h3 hl hb hz; exact big m out (by simpa using h3) h2 hl hb hz
  | succ d ih =>
    intro m out h1 h2 h3 hl hb hz
    by_cases c : 1073741824 ≤ m
    · exact big m out c h2 hl hb hz
    · have hd : ∃ o2 : List Int, o2.length = n ∧ ∀ j : Nat, j < n → rd o2 j = rd out j * 2 := ⟨out.map (· * 2), by simpa using hl, fun j hj => by
        unfold rd
        simp only [Int.toNat_natCast, List.getD_eq_getElem?_getD, List.getElem?_map]
        rw [List.getElem?_eq_getElem (by omega)]; rfl⟩
      obtain ⟨o2, l2, v2⟩ := hd
      obtain ⟨R, out', s, hR, hU, hv, hs⟩ := ih (2 * m) o2 (by omega) (by omega) (by rw [Int.mul_comm 2 m, Int.mul_assoc, ← Int.pow_succ']; exact h3) l2 (fun j hj => by have := hb j hj; rw [v2 j hj]; omega) (by obtain ⟨j, h4, h5⟩ := hz; exact ⟨j, h4, by rw [v2 j h4]; omega⟩)
      refine ⟨R, out', s + 1, Ev.step (fun k => by rw [quat_unit.l1, if_pos (by omega), hl]; rfl) (l2_ex n hn m ⟨h1, by omega⟩ (R, true) n 0 out (by omega) hl (fun j hj _ => hb j hj) (fun o ho hov => ?_)), hU, fun j hj => by rw [hv j hj, v2 j hj, Int.pow_succ', Int.mul_assoc], by rw [Int.pow_succ', ← Int.mul_assoc, Int.mul_comm m 2]; exact hs⟩
      obtain rfl : o = o2 := by
        refine List.ext_getElem (by omega) fun j h4 h5 => ?_
        have e1 := hov j (by omega)
        have e2 := v2 j (by omega)
        rw [if_pos (Nat.zero_le _)] at e1
        rw [← e2] at e1
        unfold rd at e1
        simpa [List.getD_eq_getElem?_getD, List.getElem?_eq_getElem h4, List.getElem?_eq_getElem h5] using e1
      exact hR
theorem l0_ex (l : List Int) (n : Nat) (hn : n ≤ 100) (hln : l.length = n) : ∀ (d i : Nat) (m : Int) (out : List Int), i + d = n → out.length = n → 0 ≤ m → m ≤ 1099511627776 → (∀ j : Nat, j < n → (-m ≤ rd out j ∧ rd out j ≤ m) ∧ (i ≤ j → rd out j = 0) ∧ (j < i → rd out j = clampV (rd l j))) → (m = 0 ∨ ∃ j : Nat, j < i ∧ (rd out j = m ∨ rd out j = -m)) →
    ((∀ j : Nat, j < n → clampV (rd l j) = 0) → Ev (fun k => quat_unit.l0 k m out l n i) ([], false)) ∧ (¬ (∀ j : Nat, j < n → clampV (rd l j) = 0) → ∃ (R out' : List Int) (s : Nat) (m' : Int), Ev (fun k => quat_unit.l0 k m out l n i) (R, true) ∧ Unit_ n out' R ∧ (∀ j : Nat, j < n → rd out' j = clampV (rd l j) * 2 ^ s) ∧ 1073741824 ≤ m' * 2 ^ s ∧ (∀ j : Nat, j < n → -m' ≤ clampV (rd l j) ∧ clampV (rd l j) ≤ m') ∧ 1 ≤ m' ∧ ∃ j : Nat, j < n ∧ (clampV (rd l j) = m' ∨ clampV (rd l j) = -m')) := by
  intro d
  induction d with
  | zero =>
    intro i m out hd hl h0 h1 hb hz
    by_cases c : m = 0
    · have all : ∀ j : Nat, j < n → clampV (rd l j) = 0 := fun j hj => by
        have := hb j hj
        rw [← this.2.2 (by omega)]; omega
      exact ⟨fun _ => Ev.step (f := fun _ => some ([], false)) (fun k => by rw [quat_unit.l0, if_neg (by omega), if_pos c]) (Ev.now _), fun h => absurd all h⟩
    · obtain ⟨j0, hj0, hj1⟩ := hz.resolve_left c
      have e0 := (hb j0 (by omega)).2.2 hj0
      refine ⟨fun h => absurd (h j0 (by omega)) (by rw [← e0]; omega), fun _ => ?_⟩
      obtain ⟨R, out', s, hR, hU, hv, hs⟩ := l1_ex n hn 30 m out (by omega) (by omega) (by
        have e : (2 : Int) ^ 30 = 1073741824 := by decide
        rw [e]; omega) hl (fun j hj => (hb j hj).1) ⟨j0, by omega, by omega⟩
      exact ⟨R, out', s, m, Ev.step (fun k => by rw [quat_unit.l0, if_neg (by omega), if_neg c]) hR, hU, fun j hj => by rw [hv j hj, (hb j hj).2.2 (by omega)], hs, fun j hj => by rw [← (hb j hj).2.2 (by omega)]; exact (hb j hj).1, by omega, j0, by omega, by rw [← e0]; exact hj1⟩
  | succ d ih =>
    intro i m out hd hl h0 h1 hb hz
    have w : wrap64 ((i : Int) + 1) = ((i + 1 : Nat) : Int) := by rw [wrap_in (by omega) (by omega)]; omega
    have hcl := clampV_le (rd l i)
    have hs : ∀ k, quat_unit.l0 (k + 1) m out l n i = quat_unit.l0 k (mx (mx m (clampV (rd l i))) (-(clampV (rd l i)))) (out.set i (clampV (rd l i))) l n ((i + 1 : Nat) : Int) := by
      intro k
      rw [quat_unit.l0, if_pos (by omega), if_pos (by omega), if_pos (by omega), clamp_eq]
      simp only [Option.bind_some, w, Int.toNat_natCast, rd_set out i i _ (show i < out.length by omega), if_true]
      rw [if_pos (by omega), wrap_in (by omega) (by omega)]
    have hmx : (mx (mx m (clampV (rd l i))) (-(clampV (rd l i))) = m) ∨ (mx (mx m (clampV (rd l i))) (-(clampV (rd l i))) = clampV (rd l i) ∨ mx (mx m (clampV (rd l i))) (-(clampV (rd l i))) = -(clampV (rd l i))) := by
      unfold mx
      (repeat' split) <;> omega
    have hge : m ≤ mx (mx m (clampV (rd l i))) (-(clampV (rd l i))) ∧ -(mx (mx m (clampV (rd l i))) (-(clampV (rd l i)))) ≤ clampV (rd l i) ∧ clampV (rd l i) ≤ mx (mx m (clampV (rd l i))) (-(clampV (rd l i))) ∧ mx (mx m (clampV (rd l i))) (-(clampV (rd l i))) ≤ 1099511627776 := by
      unfold mx
      (repeat' split) <;> omega
    generalize mx (mx m (clampV (rd l i))) (-(clampV (rd l i))) = m' at *
    obtain ⟨hA, hB⟩ := ih (i + 1) m' (out.set i (clampV (rd l i))) (by omega) (by simpa using hl) (by omega) (by omega) (by
      intro j hj
      rw [rd_set _ _ _ _ (by omega)]
      by_cases e : j = i
      · subst e; rw [if_pos rfl]; exact ⟨by omega, fun h => by omega, fun _ => rfl⟩
      · rw [if_neg e]
        have := hb j hj
        exact ⟨by omega, fun h => this.2.1 (by omega), fun h => this.2.2 (by omega)⟩) (by
      rcases hmx with e1 | e1
      · rcases hz with hz | ⟨j, h3, h4⟩
        · left; omega
        · right
          refine ⟨j, by omega, ?_⟩
          rw [rd_set _ _ _ _ (by omega), if_neg (by omega), e1]; exact h4
      · right
        refine ⟨i, by omega, ?_⟩
        rw [rd_set _ _ _ _ (by omega), if_pos rfl]; omega)
    exact ⟨fun h => Ev.step hs (hA h), fun h => by obtain ⟨R, out', s, m2, hR, r⟩ := hB h; exact ⟨R, out', s, m2, Ev.step hs hR, r⟩⟩
/-- quat.unit, exactly. -/
theorem unit_ex (l : List Int) (hl : l.length ≤ 100) : ((∀ j : Nat, j < l.length → clampV (rd l j) = 0) → Ev (fun k => quat_unit.f k l) ([], false)) ∧ (¬ (∀ j : Nat, j < l.length → clampV (rd l j) = 0) → ∃ (R out' : List Int) (s : Nat) (m' : Int), Ev (fun k => quat_unit.f k l) (R, true) ∧ Unit_ l.length out' R ∧ (∀ j : Nat, j < l.length → rd out' j = clampV (rd l j) * 2 ^ s) ∧ 1073741824 ≤ m' * 2 ^ s ∧ (∀ j : Nat, j < l.length → -m' ≤ clampV (rd l j) ∧ clampV (rd l j) ≤ m') ∧ 1 ≤ m' ∧ ∃ j : Nat, j < l.length ∧ (clampV (rd l j) = m' ∨ clampV (rd l j) = -m')) := by
  obtain ⟨hA, hB⟩ := l0_ex l l.length hl rfl l.length 0 0 (List.replicate l.length 0) (by omega) (by simp) (by omega) (by omega) (fun j _ => ⟨by rw [rd_zero]; omega, fun _ => rd_zero _ _, fun h => by omega⟩) (.inl rfl)
  have e : (fun k => quat_unit.f k l) = fun k => quat_unit.l0 k 0 (List.replicate l.length 0) l l.length 0 := by
    funext k
    unfold quat_unit.f
    simp only [if_pos (show (0 : Int) ≤ ((l.length : Nat) : Int) by omega), Int.toNat_natCast, if_pos (show l.length ≤ 35184372088832 by omega)]
  rw [e]
  exact ⟨hA, hB⟩
end Go.Proofs.Ytfallkiaojefnaa.QExactBonesLong
