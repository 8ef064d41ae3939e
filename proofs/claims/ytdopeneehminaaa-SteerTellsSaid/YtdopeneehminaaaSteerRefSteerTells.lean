/- The reference's movers, over what the print wrote of a law: MoverFault, Cut, Steered come to what steer's own come to. Under no condition. -/
import Derived.Test.YtdopeneehminaaaSteerSteerTells
namespace Go.Proofs.Ytdopeneehminaaa.SteerRefSteerTells
open Go.RowKit Go.Proofs.YtdopeneehminaaaW.PrintWords Go.Proofs.YtdopeneehminaaaW.PrintLast Go.Proofs.YtdopeneehminaaaW.PrintMore Go.Proofs.Ytdopeneehminaaa.PSteerTells Go.Proofs.Ytdopeneehminaaa.NumSteerTells Go.Proofs.Ytdopeneehminaaa.SteerSteerTells
set_option linter.unusedVariables false

theorem moverFault_ev (x y u v fast turn : Int) : Ev (fun k => tourref5_MoverFault.f k x y u v fast turn) (faultV x y u v fast turn) := by
  refine ⟨6, fun k hk => ?_⟩
  obtain ⟨k, rfl⟩ : ∃ m, k = m + 6 := ⟨k - 6, by omega⟩
  unfold tourref5_MoverFault.f faultV
  simp only [Option.bind_some]
  simp only [tourref5_MoverFault.l0, List.length_cons, List.length_nil, rd, wrap64, clamp_same]
  have e : (mn fast turn < 0 ∨ 65536000 < mx fast turn) ↔ ¬ (0 ≤ fast ∧ 0 ≤ turn ∧ fast ≤ 65536000 ∧ turn ≤ 65536000) := by unfold mn mx; split <;> split <;> omega
  generalize mn fast turn = p at *
  generalize mx fast turn = q at *
  simp
  repeat' split
  all_goals first | rfl | (exfalso; omega)

theorem cut_ev (x y most : Int) : Ev (fun k => tourref5_Cut.f k x y most) (shortV x y most) := by
  unfold tourref5_Cut.f shortV
  simp only [clamp_eq, Option.bind_some]
  refine Ev.bind (len_ev _ _) ?_
  rw [len_clamp]
  by_cases h : lenV x y ≤ most
  · simp only [if_pos h]; exact Ev.now _
  · simp only [if_neg h]
    have hu := unit_ev (clampV x) (clampV y)
    rw [unit_clamp] at hu
    have e : mx 0 most = mx most 0 := by unfold mx; split <;> split <;> omega
    rw [e]
    exact Ev.bind hu (Ev.bind (scale_ev _ _ _) (Ev.now _))

theorem steered_ev (x y u v fast turn wx wy : Int) : Ev (fun k => tourref5_Steered.f k x y u v fast turn wx wy) (towardV x y u v fast turn wx wy) := by
  unfold tourref5_Steered.f towardV
  simp only [vsub_eq, vadd_eq, Option.bind_some]
  exact Ev.bind (cut_ev _ _ _) (Ev.bind (cut_ev _ _ _) (Ev.now _))
end Go.Proofs.Ytdopeneehminaaa.SteerRefSteerTells
