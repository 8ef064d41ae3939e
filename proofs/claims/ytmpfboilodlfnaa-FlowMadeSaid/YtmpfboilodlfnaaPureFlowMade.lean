/- What the printed law FlowMade computes is true, whatever the lists and the number. Under no condition. -/
import Derived.Test.YtmpfboilodlfnaaTellsLawFlowMade
import Derived.Test.YtmpfboilodlfnaaFlowMadeFlowMade
namespace Go.Proofs.Ytmpfboilodlfnaa.Pure
open Go Go.RowKit Go.Proofs.YtmpfboilodlfnaaW.PrintWords Go.Proofs.YtmpfboilodlfnaaW.PrintLast Go.Proofs.YtmpfboilodlfnaaW.PrintMore Go.Proofs.Ytmpfboilodlfnaa.PFlowMade Go.Proofs.Ytmpfboilodlfnaa.FlowSol Go.Proofs.Ytmpfboilodlfnaa.SrcFlowMade Go.Proofs.Ytmpfboilodlfnaa.FlowComFlowMade Go.Proofs.Ytmpfboilodlfnaa.FlowMadeFlowMade Go.Proofs.Ytmpfboilodlfnaa.TellsLawFlowMade
set_option linter.unusedVariables false
theorem made_l {W H : Int} {cost : List Int} (hb : 1 ≤ cost.length ∧ cost.length ≤ 4096) (a : Int) (l : List Int) (hl : l.length ≤ 4) : ∀ d i : Nat, i + d = l.length → ∀ c : List Int, c.length = i →
    Ev (fun k => tourlaw5_FlowMade.l0 k a c l (l.length : Int) (i : Int) W H cost) true := by
  intro d
  induction d with
  | zero =>
    intro i hd c hc
    obtain ⟨b, e, h0, h1⟩ := below_ok a (cost.length : Int) (by omega)
    refine Ev.step (f := fun k => (tourlaw5_FlowTells.f k W H cost c b 1).bind fun t249 => some t249) (fun k => ?_) (Ev.bind (tells W H cost c (by omega) b 1) (Ev.now _))
    rw [tourlaw5_FlowMade.l0, if_neg (by omega), e]
    rfl
  | succ d ih =>
    intro i hd c hc
    obtain ⟨b, e, h0, h1⟩ := below_ok (rd l (i : Int)) (cost.length : Int) (by omega)
    refine Ev.step (fun k => ?_) (ih (i + 1) (by omega) (c ++ [b]) (by simp [hc]))
    rw [tourlaw5_FlowMade.l0, if_pos (by omega), if_pos (by omega), if_pos (by omega), e]
    simp only [Option.bind_some]
    rw [if_pos (by omega), swrap_in (by omega) (by omega)]
    rfl
theorem FlowMade : tourlaw5_FlowMade.Pure := by
  intro l0 l1 a2 h1 h2 h3 h4 h5 h6 h7
  obtain ⟨W, H, cost, hg, g⟩ := grid_ev l0 (by omega)
  have hb := g.big
  have hm : 0 ≤ mn (l1.length : Int) 4 ∧ mn (l1.length : Int) 4 ≤ l1.length ∧ mn (l1.length : Int) 4 ≤ 4 := by unfold mn; split <;> omega
  refine Ev.rounds ?_
  unfold tourlaw5_FlowMade.f
  refine Ev.bind hg ?_
  simp only [if_pos hm.1, if_pos hm.2.1]
  exact made_l hb a2 _ (by rw [List.length_take]; omega) _ 0 (Nat.zero_add _) [] rfl
end Go.Proofs.Ytmpfboilodlfnaa.Pure
