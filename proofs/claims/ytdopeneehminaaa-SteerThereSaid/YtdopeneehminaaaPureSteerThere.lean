/- What the law SteerThere computes is true, whatever the numbers: what has arrived and stands, stands. Under no condition. -/
import Derived.Test.YtdopeneehminaaaSteerKeepSteerThere
import Derived.Test.YtdopeneehminaaaSteerMovesSteerThere
namespace Go.Proofs.Ytdopeneehminaaa.PureSteerThere
open Go.RowKit Go.Proofs.YtdopeneehminaaaW.PrintWords Go.Proofs.YtdopeneehminaaaW.PrintLast Go.Proofs.YtdopeneehminaaaW.PrintMore Go.Proofs.Ytdopeneehminaaa.PSteerThere Go.Proofs.Ytdopeneehminaaa.NumSteerThere Go.Proofs.Ytdopeneehminaaa.SteerSteerThere Go.Proofs.Ytdopeneehminaaa.SteerApartSteerThere Go.Proofs.Ytdopeneehminaaa.SteerMovesSteerThere Go.Proofs.Ytdopeneehminaaa.SteerKeepSteerThere
set_option linter.unusedVariables false

theorem c0 : clampV 0 = 0 := by decide +kernel
theorem round_zero (neg : Bool) (d : Int) (hd : 0 < d) (hd1 : d ≤ 1099511627776) : roundV neg 0 d = 0 := by
  unfold roundV
  have e : (0 : Int) / 18446744073709551616 = 0 := by decide
  rw [e, Int.zero_ediv, Int.zero_emod, if_neg (by omega)]
  cases neg
  · simp only [Bool.false_eq_true, if_false, if_neg (show ¬ (1099511627776 : Int) < 0 by omega), if_neg (show ¬ d - 0 ≤ 0 by omega), c0]
  · simp only [if_true, if_neg (show ¬ (1099511627776 : Int) < 0 by omega), if_neg (show ¬ d - 0 < 0 by omega), Int.neg_zero, c0]
theorem abs_pos {c : Int} (h : c ≠ 0) : 0 < absV c := by unfold absV; split <;> omega
theorem clamp_le' (c : Int) : -1099511627776 ≤ clampV c ∧ clampV c ≤ 1099511627776 := clampV_le c
theorem md_zero (a c : Int) : mulDivV a 0 c = 0 := by
  unfold mulDivV
  by_cases h : clampV c = 0
  · rw [if_pos h]
  · rw [if_neg h, c0, show absV 0 = 0 by decide, Int.mul_zero]
    exact round_zero _ _ (abs_pos h) (absV_le (clamp_le' c).1 (clamp_le' c).2)
theorem md_zero' (b c : Int) : mulDivV 0 b c = 0 := by
  unfold mulDivV
  by_cases h : clampV c = 0
  · rw [if_pos h]
  · rw [if_neg h, c0, show absV 0 = 0 by decide, Int.zero_mul]
    exact round_zero _ _ (abs_pos h) (absV_le (clamp_le' c).1 (clamp_le' c).2)
theorem mul_zero' (b : Int) : mulV 0 b = 0 := md_zero' b _
theorem len0 : lenV 0 0 = 0 := by
  obtain ⟨r, h, h0, h1, _⟩ := lenV_eq 0 0
  rw [c0] at h1
  have : r = 0 := by
    rcases Int.lt_or_le 0 r with g | g
    · have := Int.mul_pos g g; omega
    · omega
  rw [h, this, c0]
theorem unit0 : unitV 0 0 = (0, 0) := ev_uniq (unit_ev 0 0) (unit_zero 0 0 c0 c0)
theorem short0 (most : Int) (h : 0 ≤ most) : shortV 0 0 most = (0, 0) := by unfold shortV; rw [len0, if_pos h, c0]
theorem sub_self' (a : Int) : subV a a = 0 := by unfold subV; rw [Int.sub_self, c0]
theorem add_zero' {a : Int} (h0 : -1099511627776 ≤ a) (h1 : a ≤ 1099511627776) : addV a 0 = a := by unfold addV; rw [c0, Int.add_zero, clampV_clampV, clampV_id h0 h1]
theorem toward0 (x y fast turn : Int) (hx : -6553600 ≤ x ∧ x ≤ 6553600) (hy : -6553600 ≤ y ∧ y ≤ 6553600) (hf : 0 ≤ fast) (ht : 0 ≤ turn) : towardV x y 0 0 fast turn 0 0 = (x, y, 0, 0, fast, turn) := by
  unfold towardV
  simp only [sub_self', short0 _ ht, add_zero' (a := 0) (by omega) (by omega), short0 _ hf, add_zero' (a := x) (by omega) (by omega), add_zero' (a := y) (by omega) (by omega)]
theorem right0 (x y fast turn : Int) (hx : -6553600 ≤ x ∧ x ≤ 6553600) (hy : -6553600 ≤ y ∧ y ≤ 6553600) (hf : 0 ≤ fast ∧ fast < 1310720) (ht : 0 ≤ turn ∧ turn < 1310720) : faultV x y 0 0 fast turn = 0 := by
  unfold faultV
  simp only [clamp_same]
  rw [if_pos ⟨by omega, by omega, by omega, by omega⟩, if_pos ⟨by omega, by omega, by omega, by omega⟩]
theorem arrive0 (x y fast turn slow : Int) (hx : -6553600 ≤ x ∧ x ≤ 6553600) (hy : -6553600 ≤ y ∧ y ≤ 6553600) (hf : 0 ≤ fast ∧ fast < 1310720) (ht : 0 ≤ turn ∧ turn < 1310720) (hs : 1 ≤ slow ∧ slow ≤ 65536) : arriveV x y 0 0 fast turn x y slow = (x, y, 0, 0, fast, turn, 0) := by
  unfold arriveV
  rw [if_pos (right0 x y fast turn hx hy hf ht), if_neg (by omega)]
  unfold paceV
  simp only [sub_self', len0, unit0, mul_zero', if_pos (show 0 < slow by omega), toward0 x y fast turn hx hy hf.1 ht.1, seven]
theorem one_right (x y fast turn : Int) (hx : -6553600 ≤ x ∧ x ≤ 6553600) (hy : -6553600 ≤ y ∧ y ≤ 6553600) (hf : 0 ≤ fast ∧ fast < 1310720) (ht : 0 ≤ turn ∧ turn < 1310720) : apartV [(⟨⟨x, y⟩, ⟨0, 0⟩, fast, turn⟩ : S29)] 65536 = ([(⟨⟨x, y⟩, ⟨0, 0⟩, fast, turn⟩ : S29)], 0) := by
  unfold apartV
  have hr := right0 x y fast turn hx hy hf ht
  rw [if_pos (by simp), if_pos (by
    rw [faultsFrom_step _ _ (by simp), faultsFrom_end _ _ (by simp)]
    simp [at_, faultOf, hr]), if_pos (by omega)]
  have e1 : ∀ (m : S29) o v, pushV 65536 0 m 0 o v = v := fun m o v => by unfold pushV; rw [if_neg (fun h => h.1 rfl)]
  have e2 : outV [(⟨⟨x, y⟩, ⟨0, 0⟩, fast, turn⟩ : S29)] 65536 0 = ⟨⟨x, y⟩, ⟨0, 0⟩, fast, turn⟩ := by
    unfold outV
    simp only [List.length_cons, List.length_nil, wishFrom, at_, List.getD_cons_zero, Nat.zero_add, e1, toward0 x y fast turn hx hy hf.1 ht.1]
  show ([outV _ 65536 0], (0 : Int)) = _
  rw [e2]

theorem pure (x y fast turn slow : Int) : ∃ k, tourkeep5_SteerThere.f k x y fast turn slow = some true := by
  refine Ev.rounds ?_
  unfold tourkeep5_SteerThere.f
  refine Ev.bind seeks_true ?_
  simp only [if_true, mover_eq, Option.bind_some, below_eq slow 65536 (by omega) (by omega)]
  have hx := off_le x
  have hy := off_le y
  have hf : 0 ≤ fast % 1310720 ∧ fast % 1310720 < 1310720 := by omega
  have ht : 0 ≤ turn % 1310720 ∧ turn % 1310720 < 1310720 := by omega
  have hs : 1 ≤ 1 + slow % 65536 ∧ 1 + slow % 65536 ≤ 65536 := by omega
  have w : wrap64 (1 + slow % 65536) = 1 + slow % 65536 := wrap_in (by omega) (by omega)
  rw [w]
  simp only [moverV]
  refine Ev.bind (arrive_ev _ _ _ _ _ _ _ _ _) (Ev.bind (apart_ev _ _) ?_)
  rw [arrive0 (off x) (off y) (fast % 1310720) (turn % 1310720) (1 + slow % 65536) hx hy hf ht hs, one_right (off x) (off y) (fast % 1310720) (turn % 1310720) hx hy hf ht]
  refine ev_some fun k => ?_
  simp [rd_T29]

theorem walk (x : Int) (_ : (Lit.int .i64 x).wf = true) (y : Int) (_ : (Lit.int .i64 y).wf = true) (fast : Int) (_ : (Lit.int .i64 fast).wf = true) (turn : Int) (_ : (Lit.int .i64 turn).wf = true) (slow : Int) (_ : (Lit.int .i64 slow).wf = true) (W : World) :
    Calls Try.prog 6 #[.int .i64 x, .int .i64 y, .int .i64 fast, .int .i64 turn, .int .i64 slow] W fun e w' => e = .returned (.bool true) ∧ Below W.heap.size W w' := by
  obtain ⟨k, hk⟩ := pure x y fast turn slow
  exact tourkeep5_SteerThere.calls k _ _ _ _ _ true W hk
end Go.Proofs.Ytdopeneehminaaa.PureSteerThere
