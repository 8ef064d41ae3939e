/- Any grid: the program's check and step are the reference's. Under no condition but what stands at each. -/
import Derived.Test.YtmpfboilodlfnaaFlowBeyondFlowTells
namespace Go.Proofs.Ytmpfboilodlfnaa.FlowAnyFlowTells
open Go Go.RowKit Go.Proofs.YtmpfboilodlfnaaW.PrintWords Go.Proofs.YtmpfboilodlfnaaW.PrintLast Go.Proofs.YtmpfboilodlfnaaW.PrintMore Go.Proofs.Ytmpfboilodlfnaa.PFlowTells Go.Proofs.Ytmpfboilodlfnaa.FlowSol Go.Proofs.Ytmpfboilodlfnaa.FlowMid Go.Proofs.Ytmpfboilodlfnaa.SrcFlowTells Go.Proofs.Ytmpfboilodlfnaa.FlowComFlowTells
set_option linter.unusedVariables false
theorem step_any (W H : Int) (cost : List Int) (c d : Int) : Ev (fun k => flow_Step.f k W H cost c d) (stepP W H c d) := by
  by_cases hg : W < 1 ∨ W > 64 ∨ H < 1 ∨ H > 64
  · have e : stepP W H c d = -1 := by unfold stepP; rw [if_pos (by omega)]
    rw [e]
    refine Ev.step (f := fun _ => some (-1)) (fun k => ?_) (Ev.now _)
    have j : flow_Step.j0 (k + 1) c d true W H cost = some (-1) := by rw [flow_Step.j0, if_pos rfl]
    unfold flow_Step.f
    (repeat' split) <;> first | exact j | omega
  · exact ⟨1, fun k hk => by
      obtain ⟨m, rfl⟩ : ∃ m, k = m + 1 := ⟨k - 1, by omega⟩
      exact flow_Field.step_ok m cost (by omega) (by omega) (by omega) (by omega) c d⟩
theorem check_bad {cost : List Int} (hb : cost.length ≤ 4096) : ∀ d i : Nat, i + d = cost.length → (∃ x ∈ cost.drop i, x < 0 ∨ x > 1000) → Ev (fun k => flow_Check.l0 k cost (cost.length : Int) (i : Int)) 1 := by
  intro d
  induction d with
  | zero => intro i hd ⟨x, hx, _⟩; rw [List.drop_of_length_le (by omega)] at hx; simp at hx
  | succ d ih =>
    intro i hd ⟨x, hx, hbad⟩
    have i1 : (i : Int) < (cost.length : Int) := by omega
    have i0 : (0 : Int) ≤ (i : Int) := by omega
    by_cases c1 : rd cost (i : Int) < 0
    · refine Ev.step (f := fun _ => some 1) (fun k => ?_) (Ev.now _)
      rw [flow_Check.l0, if_pos i1, if_pos i0, if_pos i1, if_pos c1]
    · by_cases c2 : rd cost (i : Int) > 1000
      · refine Ev.step (f := fun _ => some 1) (fun k => ?_) (Ev.now _)
        rw [flow_Check.l0, if_pos i1, if_pos i0, if_pos i1, if_neg c1, if_pos c2]
      · refine Ev.step (f := fun k => flow_Check.l0 k cost (cost.length : Int) ((i + 1 : Nat) : Int)) (fun k => ?_) (ih (i + 1) (by omega) ⟨x, ?_, hbad⟩)
        · rw [flow_Check.l0, if_pos i1, if_pos i0, if_pos i1, if_neg c1, if_neg c2, swrap_in (by omega) (by omega)]
          rfl
        · rw [List.drop_eq_getElem_cons (by omega), ← rd_nat cost i (by omega)] at hx
          rcases List.mem_cons.1 hx with h | h
          · subst h; omega
          · exact h
theorem check_any (W H : Int) (cost : List Int) : ∃ e, Ev (fun k => flow_Check.f k W H cost) e ∧ Ev (fun k => tourref5_GridFault.f k W H cost) e ∧ (e = 0 → Grid W H cost) := by
  by_cases hg : W < 1 ∨ H < 1 ∨ W > 64 ∨ H > 64
  · refine ⟨2, Ev.step (f := fun _ => some 2) (fun k => ?_) (Ev.now _), ⟨0, fun k _ => ?_⟩, fun h => by omega⟩
    · have j : flow_Check.j0 (k + 1) true W H cost = some 2 := by rw [flow_Check.j0, if_pos rfl]
      unfold flow_Check.f
      (repeat' split) <;> first | exact j | omega | (rw [decide_eq_true (by omega)]; exact j)
    · unfold tourref5_GridFault.f; rw [if_pos hg]
  · have start : ∀ k, flow_Check.f (k + 1) W H cost = if (cost.length : Int) = (wrap64 (W * H)) then (flow_Check.l0 k cost (cost.length : Int) ((0 : Nat) : Int)) else (some 3) := fun k => by
      unfold flow_Check.f
      rw [if_neg (by omega), if_neg (by omega), if_neg (by omega), decide_eq_false (by omega), flow_Check.j0, if_neg (by simp)]
      rfl
    by_cases hl : (cost.length : Int) = wrap64 (W * H)
    · have b1 : 0 ≤ W * H := Int.mul_nonneg (by omega) (by omega)
      have b2 : W * H ≤ 64 * 64 := le_mul (by omega) (by omega) (by omega) (by omega)
      have hw : wrap64 (W * H) = W * H := swrap_in (by omega) (by omega)
      by_cases hb : cost.any tourref5_GridFault.bad = true
      · refine ⟨1, Ev.step (fun k => (start k).trans (if_pos hl)) (check_bad (by omega) cost.length 0 (by omega) ?_), ⟨0, fun k _ => ?_⟩, fun h => by omega⟩
        · obtain ⟨x, hx, h⟩ := List.any_eq_true.1 hb
          unfold tourref5_GridFault.bad at h
          exact ⟨x, by simpa using hx, of_decide_eq_true h⟩
        · unfold tourref5_GridFault.f; rw [if_neg hg, if_neg (by simpa using hl), if_pos hb]
      · have g : Grid W H cost := by
          refine ⟨by omega, by omega, by omega, by omega, by omega, fun x hx => ?_⟩
          by_cases h : x < 0 ∨ x > 1000
          · exact absurd (List.any_eq_true.2 ⟨x, hx, by unfold tourref5_GridFault.bad; exact decide_eq_true h⟩) hb
          · omega
        refine ⟨0, check_ev g, ⟨0, fun k _ => ?_⟩, fun _ => g⟩
        unfold tourref5_GridFault.f; rw [if_neg hg, if_neg (by simpa using hl), if_neg hb]
    · refine ⟨3, Ev.step (f := fun _ => some 3) (fun k => (start k).trans (if_neg hl)) (Ev.now _), ⟨0, fun k _ => ?_⟩, fun h => by omega⟩
      unfold tourref5_GridFault.f; rw [if_neg hg, if_pos hl]
end Go.Proofs.Ytmpfboilodlfnaa.FlowAnyFlowTells
