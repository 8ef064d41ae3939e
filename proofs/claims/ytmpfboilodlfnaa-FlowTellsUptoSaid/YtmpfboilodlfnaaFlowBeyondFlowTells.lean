/- The reference's next cell is the program's; what the two tell of any grid. Under the conditions that stand at each. -/
import Derived.Test.YtmpfboilodlfnaaFlowComFlowTells
import Derived.Test.YtmpfboilodlfnaaFlowMid
namespace Go.Proofs.Ytmpfboilodlfnaa.FlowBeyondFlowTells
open Go Go.RowKit Go.Proofs.YtmpfboilodlfnaaW.PrintWords Go.Proofs.YtmpfboilodlfnaaW.PrintLast Go.Proofs.YtmpfboilodlfnaaW.PrintMore Go.Proofs.Ytmpfboilodlfnaa.PFlowTells Go.Proofs.Ytmpfboilodlfnaa.FlowSol Go.Proofs.Ytmpfboilodlfnaa.FlowMid Go.Proofs.Ytmpfboilodlfnaa.SrcFlowTells Go.Proofs.Ytmpfboilodlfnaa.FlowComFlowTells
set_option linter.unusedVariables false
theorem beyond_any (W H : Int) (cost : List Int) (c d : Int) : Ev (fun k => tourref5_Beyond.f k W H cost c d) (stepP W H c d) := by
  have out : ∀ f : Nat → Option Int, (∀ k, f k = tourref5_Beyond.j0 k c d true W H cost) → stepP W H c d = -1 → Ev f (stepP W H c d) := fun f hf e => by
    rw [e]
    refine Ev.congr hf (Ev.step (f := fun _ => some (-1)) (fun k => ?_) (Ev.now _))
    rw [tourref5_Beyond.j0, if_pos rfl]
  by_cases hg : W < 1 ∨ W > 64 ∨ H < 1 ∨ H > 64 ∨ c < 0
  · refine out _ (fun k => ?_) (by unfold stepP; rw [if_pos (by omega)])
    unfold tourref5_Beyond.f
    (repeat' split) <;> first | rfl | omega
  · have b1 : 0 ≤ W * H := Int.mul_nonneg (by omega) (by omega)
    have b2 : W * H ≤ 64 * 64 := le_mul (by omega) (by omega) (by omega) (by omega)
    have hw : wrap64 (W * H) = W * H := swrap_in (by omega) (by omega)
    by_cases hc : c ≥ W * H
    · refine out _ (fun k => ?_) (by unfold stepP; rw [if_pos (by omega)])
      unfold tourref5_Beyond.f
      rw [hw]
      (repeat' split) <;> first | rfl | omega
    · by_cases hd : d < 0 ∨ d > 4
      · refine out _ (fun k => ?_) (by unfold stepP; rw [if_neg (by omega)]; dsimp only; rw [if_neg (by omega), if_neg (by omega), if_neg (by omega), if_neg (by omega), if_neg (by omega)])
        unfold tourref5_Beyond.f
        rw [hw]
        by_cases d0 : d < 0
        · (repeat' split) <;> first | rfl | omega
        · rw [decide_eq_true (show d > 4 by omega)]
          (repeat' split) <;> first | rfl | omega
      · obtain ⟨a1, a2, a3, a4, a5⟩ := unlay (W := W) (H := H) (c := c) (by omega) (by omega) (by omega)
        have em : Int.tmod c W = c % W := Int.tmod_eq_emod_of_nonneg (by omega)
        have ed : Int.tdiv c W = c / W := Int.tdiv_eq_ediv_of_nonneg (by omega)
        have wy : wrap64 (c / W) = c / W := swrap_in (by omega) (by omega)
        have fin : ∀ p q : Int, -1 ≤ p → p ≤ 1 → -1 ≤ q → q ≤ 1 → (if wrap64 (c % W + p) < 0 then some (-1) else (if wrap64 (c % W + p) ≥ W then some (-1) else (if wrap64 (c / W + q) < 0 then some (-1) else (if wrap64 (c / W + q) ≥ H then some (-1) else some (wrap64 (wrap64 (c % W + p) + wrap64 (wrap64 (c / W + q) * W)))))))
            = some (if c % W + p < 0 ∨ c % W + p ≥ W ∨ c / W + q < 0 ∨ c / W + q ≥ H then -1 else (c / W + q) * W + (c % W + p)) := by
          intro p q p1 p2 q1 q2
          rw [swrap_in (x := c % W + p) (by omega) (by omega), swrap_in (x := c / W + q) (by omega) (by omega)]
          by_cases h1 : c % W + p < 0
          · rw [if_pos h1, if_pos (.inl h1)]
          · rw [if_neg h1]
            by_cases h2 : c % W + p ≥ W
            · rw [if_pos h2, if_pos (.inr (.inl h2))]
            · rw [if_neg h2]
              by_cases h3 : c / W + q < 0
              · rw [if_pos h3, if_pos (.inr (.inr (.inl h3)))]
              · rw [if_neg h3]
                by_cases h4 : c / W + q ≥ H
                · rw [if_pos h4, if_pos (.inr (.inr (.inr h4)))]
                · obtain ⟨l1, l2, _⟩ := lay (W := W) (H := H) (x := c % W + p) (y := c / W + q) (by omega) (by omega) (by omega) (by omega) (by omega)
                  have l3 : 0 ≤ (c / W + q) * W := Int.mul_nonneg (by omega) (by omega)
                  rw [if_neg h4, if_neg (by omega), swrap_in (x := (c / W + q) * W) (by omega) (by omega), swrap_in (by omega) (by omega), Int.add_comm]
        refine Ev.step (f := fun _ => some (stepP W H c d)) (fun k => ?_) (Ev.now _)
        have h5 : d = 0 ∨ d = 1 ∨ d = 2 ∨ d = 3 ∨ d = 4 := by omega
        unfold tourref5_Beyond.f stepP
        rw [hw, if_neg (by omega), if_neg (by omega), if_neg (by omega), if_neg (by omega), if_neg (by omega), if_neg hc, if_neg (by omega), decide_eq_false (by omega), tourref5_Beyond.j0, if_neg (by simp), if_neg (by omega), if_neg (by omega)]
        simp only [Option.bind_some, em, ed, wy]
        rcases h5 with rfl | rfl | rfl | rfl | rfl
        · refine (fin (0) (0) (by omega) (by omega) (by omega) (by omega)).trans (congrArg some ?_)
          simp only [Int.add_zero, Int.sub_eq_add_neg, Int.reduceEq, if_true, if_false]
          rw [if_neg (by omega)]
        · refine (fin (1) (0) (by omega) (by omega) (by omega) (by omega)).trans (congrArg some ?_)
          simp only [Int.add_zero, Int.sub_eq_add_neg, Int.reduceEq, if_true, if_false]
          split <;> split <;> first | rfl | omega
        · refine (fin (0) (1) (by omega) (by omega) (by omega) (by omega)).trans (congrArg some ?_)
          simp only [Int.add_zero, Int.sub_eq_add_neg, Int.reduceEq, if_true, if_false]
          split <;> split <;> first | rfl | omega
        · refine (fin (-1) (0) (by omega) (by omega) (by omega) (by omega)).trans (congrArg some ?_)
          simp only [Int.add_zero, Int.sub_eq_add_neg, Int.reduceEq, if_true, if_false]
          split <;> split <;> first | rfl | omega
        · refine (fin (0) (-1) (by omega) (by omega) (by omega) (by omega)).trans (congrArg some ?_)
          simp only [Int.add_zero, Int.sub_eq_add_neg, Int.reduceEq, if_true, if_false]
          split <;> split <;> first | rfl | omega
end Go.Proofs.Ytmpfboilodlfnaa.FlowBeyondFlowTells
