/- What steer.Seek, Flee and Arrive come to. Under the conditions that stand at each. -/
import Derived.Test.YtdopeneehminaaaSteerSteerTells
namespace Go.Proofs.Ytdopeneehminaaa.SteerFleeSteerTells
open Go.RowKit Go.Proofs.YtdopeneehminaaaW.PrintWords Go.Proofs.YtdopeneehminaaaW.PrintLast Go.Proofs.YtdopeneehminaaaW.PrintMore Go.Proofs.Ytdopeneehminaaa.PSteerTells Go.Proofs.Ytdopeneehminaaa.NumSteerTells Go.Proofs.Ytdopeneehminaaa.SteerSteerTells
set_option linter.unusedVariables false

def seven (t : Int × Int × Int × Int × Int × Int) (e : Int) : Int × Int × Int × Int × Int × Int × Int := (t.1, t.2.1, t.2.2.1, t.2.2.2.1, t.2.2.2.2.1, t.2.2.2.2.2, e)
noncomputable def seekV (x y u v fast turn a b : Int) : Int × Int × Int × Int × Int × Int × Int :=
  if faultV x y u v fast turn = 0 then seven (towardV x y u v fast turn (mulV (unitV (subV a x) (subV b y)).1 fast) (mulV (unitV (subV a x) (subV b y)).2 fast)) 0 else (0, 0, 0, 0, 0, 0, faultV x y u v fast turn)
theorem seek_ev (x y u v fast turn a b : Int) : Ev (fun k => steer_Seek.f k x y u v fast turn a b) (seekV x y u v fast turn a b) := by
  unfold steer_Seek.f seekV
  refine Ev.bind (check_ev x y u v fast turn) ?_
  by_cases h : faultV x y u v fast turn = 0
  · simp only [if_pos h, vsub_eq, Option.bind_some]
    exact Ev.bind (unit_ev _ _) (Ev.bind (scale_ev _ _ _) (Ev.bind (toward_ev _ _ _ _ _ _ _ _) (Ev.now _)))
  · simp only [if_neg h]; exact Ev.now _
noncomputable def fleeV (x y u v fast turn a b : Int) : Int × Int × Int × Int × Int × Int × Int :=
  if faultV x y u v fast turn = 0 then seven (towardV x y u v fast turn (mulV (unitV (subV x a) (subV y b)).1 fast) (mulV (unitV (subV x a) (subV y b)).2 fast)) 0 else (0, 0, 0, 0, 0, 0, faultV x y u v fast turn)
theorem flee_ev (x y u v fast turn a b : Int) : Ev (fun k => steer_Flee.f k x y u v fast turn a b) (fleeV x y u v fast turn a b) := by
  unfold steer_Flee.f fleeV
  refine Ev.bind (check_ev x y u v fast turn) ?_
  by_cases h : faultV x y u v fast turn = 0
  · simp only [if_pos h, vsub_eq, Option.bind_some]
    exact Ev.bind (unit_ev _ _) (Ev.bind (scale_ev _ _ _) (Ev.bind (toward_ev _ _ _ _ _ _ _ _) (Ev.now _)))
  · simp only [if_neg h]; exact Ev.now _
/-- How fast what arrives wants to be. -/
noncomputable def paceV (x y fast a b slow : Int) : Int := if lenV (subV a x) (subV b y) < slow then mulDivV fast (lenV (subV a x) (subV b y)) slow else fast
noncomputable def arriveV (x y u v fast turn a b slow : Int) : Int × Int × Int × Int × Int × Int × Int :=
  if faultV x y u v fast turn = 0 then (if slow < 1 ∨ 1099511627776 < slow then (0, 0, 0, 0, 0, 0, 1) else
    seven (towardV x y u v fast turn (mulV (unitV (subV a x) (subV b y)).1 (paceV x y fast a b slow)) (mulV (unitV (subV a x) (subV b y)).2 (paceV x y fast a b slow))) 0) else (0, 0, 0, 0, 0, 0, faultV x y u v fast turn)
theorem arrive_ev (x y u v fast turn a b slow : Int) : Ev (fun k => steer_Arrive.f k x y u v fast turn a b slow) (arriveV x y u v fast turn a b slow) := by
  unfold steer_Arrive.f arriveV
  refine Ev.bind (check_ev x y u v fast turn) ?_
  by_cases h : faultV x y u v fast turn = 0
  · simp only [if_pos h]
    have hj : ∀ z : Bool, (z = true ↔ (slow < 1 ∨ 1099511627776 < slow)) → Ev (fun k => steer_Arrive.j0 k slow z x y u v fast turn a b) (if slow < 1 ∨ 1099511627776 < slow then (0, 0, 0, 0, 0, 0, 1) else
        seven (towardV x y u v fast turn (mulV (unitV (subV a x) (subV b y)).1 (paceV x y fast a b slow)) (mulV (unitV (subV a x) (subV b y)).2 (paceV x y fast a b slow))) 0) := by
      intro z hz
      cases z
      · rw [if_neg (fun h => by have := hz.2 h; simp at this)]
        refine Ev.step (fun k => by rw [steer_Arrive.j0, if_neg (by simp)]) ?_
        simp only [vsub_eq, Option.bind_some]
        refine Ev.bind (len_ev _ _) ?_
        unfold paceV
        by_cases hl : lenV (subV a x) (subV b y) < slow
        · simp only [if_pos hl]
          exact Ev.bind (mulDiv_ev _ _ _) (Ev.bind (unit_ev _ _) (Ev.bind (scale_ev _ _ _) (Ev.bind (toward_ev _ _ _ _ _ _ _ _) (Ev.now _))))
        · simp only [if_neg hl]
          exact Ev.bind (unit_ev _ _) (Ev.bind (scale_ev _ _ _) (Ev.bind (toward_ev _ _ _ _ _ _ _ _) (Ev.now _)))
      · rw [if_pos (hz.1 rfl)]
        exact Ev.step (f := fun _ => some _) (fun k => by rw [steer_Arrive.j0, if_pos rfl]) (Ev.now _)
    by_cases hs : slow < 1
    · simp only [if_pos hs]; exact hj true (by simp; omega)
    · simp only [if_neg hs]; exact hj _ (by rw [decide_eq_true_eq]; omega)
  · simp only [if_neg h]; exact Ev.now _
end Go.Proofs.Ytdopeneehminaaa.SteerFleeSteerTells
