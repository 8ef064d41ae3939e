/- Movers, over what the print wrote of a law: what steer.Check, Short, toward, Apart and the reference's Cut and Steered come to. Under no condition. -/
import Derived.Test.YtdopeneehminaaaNumSteerTells
namespace Go.Proofs.Ytdopeneehminaaa.SteerSteerTells
open Go.RowKit Go.Proofs.YtdopeneehminaaaW.PrintWords Go.Proofs.YtdopeneehminaaaW.PrintLast Go.Proofs.YtdopeneehminaaaW.PrintMore Go.Proofs.Ytdopeneehminaaa.PSteerTells Go.Proofs.Ytdopeneehminaaa.NumSteerTells
set_option linter.unusedVariables false

theorem clamp_same (a : Int) : clampV a = a ↔ -1099511627776 ≤ a ∧ a ≤ 1099511627776 := by
  unfold clampV
  split
  · constructor <;> intro h <;> omega
  · split
    · constructor <;> intro h <;> omega
    · constructor <;> intro h <;> omega

/-- What is wrong with a mover (0: nothing). -/
def faultV (x y u v fast turn : Int) : Int :=
  if clampV x = x ∧ clampV y = y ∧ clampV u = u ∧ clampV v = v then (if 0 ≤ fast ∧ 0 ≤ turn ∧ fast ≤ 65536000 ∧ turn ≤ 65536000 then 0 else 1) else 2

theorem check_ev (x y u v fast turn : Int) : Ev (fun k => steer_Check.f k x y u v fast turn) (faultV x y u v fast turn) := by
  refine ⟨6, fun k hk => ?_⟩
  obtain ⟨k, rfl⟩ : ∃ m, k = m + 6 := ⟨k - 6, by omega⟩
  unfold steer_Check.f faultV
  simp only [Option.bind_some]
  simp only [steer_Check.l0, List.length_cons, List.length_nil, clamp_eq, Option.bind_some, rd, wrap64]
  by_cases h1 : clampV x = x
  · by_cases h2 : clampV y = y
    · by_cases h3 : clampV u = u
      · by_cases h4 : clampV v = v
        · simp [h1, h2, h3, h4]
          repeat' split
          all_goals first | rfl | (exfalso; omega)
        · simp [h1, h2, h3, h4]
      · simp [h1, h2, h3]
    · simp [h1, h2]
  · simp [h1]

theorem len_clamp (x y : Int) : lenV (clampV x) (clampV y) = lenV x y := by
  unfold lenV
  congr 1; funext k
  unfold vec_Len.f
  simp only [clamp_eq, Option.bind_some, clampV_clampV]
theorem unit_clamp (x y : Int) : unitV (clampV x) (clampV y) = unitV x y := by
  unfold unitV
  congr 1; funext k
  unfold vec_Unit.f
  simp only [clamp_eq, Option.bind_some, clampV_clampV]

noncomputable def shortV (x y most : Int) : Int × Int := if lenV x y ≤ most then (clampV x, clampV y) else (mulV (unitV x y).1 (mx most 0), mulV (unitV x y).2 (mx most 0))
theorem short_ev (x y most : Int) : Ev (fun k => steer_Short.f k x y most) (shortV x y most) := by
  unfold steer_Short.f shortV
  refine Ev.bind (len_ev x y) ?_
  by_cases h : lenV x y ≤ most
  · simp only [if_pos h, clamp_eq, Option.bind_some]; exact Ev.now _
  · simp only [if_neg h]
    exact Ev.bind (unit_ev x y) (Ev.bind (scale_ev _ _ _) (Ev.now _))

/-- A mover that wants a velocity, a step later. -/
noncomputable def towardV (x y u v fast turn wx wy : Int) : Int × Int × Int × Int × Int × Int :=
  let c := shortV (subV wx u) (subV wy v) turn
  let n := shortV (addV u c.1) (addV v c.2) fast
  (addV x n.1, addV y n.2, n.1, n.2, fast, turn)
theorem toward_ev (x y u v fast turn wx wy : Int) : Ev (fun k => steer_toward.f k x y u v fast turn wx wy) (towardV x y u v fast turn wx wy) := by
  unfold steer_toward.f towardV
  simp only [vsub_eq, vadd_eq, Option.bind_some]
  exact Ev.bind (short_ev _ _ _) (Ev.bind (short_ev _ _ _) (Ev.now _))
end Go.Proofs.Ytdopeneehminaaa.SteerSteerTells
