/- What the printed law FlowSteps computes is true, whatever the lists. Under no condition. -/
import Derived.Test.YtmpfboilodlfnaaFlowWithinFlowSteps
namespace Go.Proofs.Ytmpfboilodlfnaa.Pure
open Go Go.RowKit Go.Proofs.YtmpfboilodlfnaaW.PrintWords Go.Proofs.YtmpfboilodlfnaaW.PrintLast Go.Proofs.YtmpfboilodlfnaaW.PrintMore Go.Proofs.Ytmpfboilodlfnaa.PFlowSteps Go.Proofs.Ytmpfboilodlfnaa.FlowSol Go.Proofs.Ytmpfboilodlfnaa.SrcFlowSteps Go.Proofs.Ytmpfboilodlfnaa.FlowComFlowSteps Go.Proofs.Ytmpfboilodlfnaa.FlowMadeFlowSteps Go.Proofs.Ytmpfboilodlfnaa.FlowWithinFlowSteps
set_option linter.unusedVariables false
theorem steps_l {W H : Int} {cost goals f : List Int} (g : Grid W H cost) (s : Sol W H cost goals f) (i : Int) (h0 : 0 ≤ i) (h1 : i < W * H) (m p : Int) (h : Ev (fun k => tourkeep5_FlowSteps.l0 k f m (wrap64 (p + 1)) W H cost) true) :
    ∀ n : Nat, ∀ d : Int, 1 ≤ d → d + n = 5 → Ev (fun k => tourkeep5_FlowSteps.l1 k f i d m p W H cost) true := by
  have hl := g.len
  have hb := g.big
  have hfl := s.len
  intro n
  induction n with
  | zero =>
    intro d _ hd
    refine Ev.step (f := fun k => tourkeep5_FlowSteps.l0 k f m (wrap64 (p + 1)) W H cost) (fun k => ?_) h
    rw [tourkeep5_FlowSteps.l1, if_neg (by omega)]
  | succ n ih =>
    intro d h2 hd
    have next := ih (d + 1) (by omega) (by omega)
    have pass : ∀ t, Ev (fun k => tourkeep5_FlowSteps.j3 k f i d t m p true W H cost) true := fun t => by
      refine Ev.step (f := fun k => tourkeep5_FlowSteps.l1 k f i (d + 1) m p W H cost) (fun k => ?_) next
      rw [tourkeep5_FlowSteps.j3, if_pos rfl, swrap_in (by omega) (by omega)]
    refine Ev.step (f := fun k => (flow_Step.f k W H cost i d).bind fun t => if t ≥ (f.length : Int) then (tourkeep5_FlowSteps.j3 k f i d t m p true W H cost) else (if t < 0 then (tourkeep5_FlowSteps.j3 k f i d t m p true W H cost) else (if 0 ≤ i then (if i < (cost.length : Int) then (if (rd cost i) = 0 then (tourkeep5_FlowSteps.j3 k f i d t m p true W H cost) else (if 0 ≤ t then (if t < (cost.length : Int) then (tourkeep5_FlowSteps.j3 k f i d t m p ((rd cost t) == 0) W H cost) else (none)) else (none))) else (none)) else (none)))) (fun k => ?_) ?_
    · rw [tourkeep5_FlowSteps.l1, if_pos (by omega)]
    refine Ev.bind (step_ev g i d) ?_
    by_cases t1 : stepP W H i d ≥ (f.length : Int)
    · simp only [if_pos t1]; exact pass _
    simp only [if_neg t1]
    by_cases t2 : stepP W H i d < 0
    · simp only [if_pos t2]; exact pass _
    simp only [if_neg t2, if_pos h0, if_pos (show i < (cost.length : Int) by omega)]
    by_cases t3 : rd cost i = 0
    · simp only [if_pos t3]; exact pass _
    simp only [if_neg t3, if_pos (show 0 ≤ stepP W H i d by omega), if_pos (show stepP W H i d < (cost.length : Int) by omega)]
    by_cases t4 : rd cost (stepP W H i d) = 0
    · simp only [t4, beq_self_eq_true]; exact pass _
    have e4 : (rd cost (stepP W H i d) == 0) = false := by simpa using t4
    simp only [e4]
    generalize hn : stepP W H i d = t at *
    have ci := g.rd i h0
    have ct := g.rd t (by omega)
    obtain ⟨_, _, t5, e, e1, e2, hback⟩ := stepP_sym hn (by omega) ⟨h2, by omega⟩
    have r1 := s.relax i d t h2 (by omega) hn (by omega) (by omega)
    have r2 := s.relax t e i e1 e2 hback h0 (by omega)
    have lt := s.low t (by omega) t5
    have li := s.low i h0 h1
    have hx : (decide (rd f i < 0) != decide (rd f t < 0)) = false := by
      by_cases c : rd f i < 0
      · have c2 : rd f t < 0 := Int.not_le.1 fun h => by have := r1 h; omega
        rw [decide_eq_true c, decide_eq_true c2]; rfl
      · have c2 : ¬ rd f t < 0 := fun h => by have := r2 (by omega); omega
        rw [decide_eq_false c, decide_eq_false c2]; rfl
    have up : rd f t ≤ 9000000000000000000 → ¬ rd f i > wrap64 (rd f t + rd cost t) := fun hu => by
      rw [swrap_in (by omega) (by omega)]
      by_cases c : 0 ≤ rd f t
      · have := r1 c; omega
      · have : rd f i < 0 := Int.not_le.1 fun h => by have := r2 h; omega
        omega
    have top : rd f t ≤ 9000000000000000000 := by have := s.top t (by omega) t5; omega
    refine Ev.step (f := fun k => tourkeep5_FlowSteps.l1 k f i (d + 1) m p W H cost) (fun k => ?_) next
    rw [tourkeep5_FlowSteps.j3, if_neg (by simp), if_pos h0, if_pos (by omega), if_pos (by omega), if_pos (by omega), hx, if_neg (by simp), if_pos (by omega), if_neg (up top), swrap_in (by omega) (by omega)]
theorem steps_all {W H : Int} {cost goals f : List Int} (g : Grid W H cost) (s : Sol W H cost goals f) : ∀ n i : Nat, i + n = f.length → Ev (fun k => tourkeep5_FlowSteps.l0 k f (f.length : Int) (i : Int) W H cost) true := by
  have hl := g.len
  have hb := g.big
  have hfl := s.len
  intro n
  induction n with
  | zero => intro i hi; exact Ev.step (f := fun _ => some true) (fun k => by rw [tourkeep5_FlowSteps.l0, if_neg (by omega)]) (Ev.now _)
  | succ n ih =>
    intro i hi
    refine Ev.step (f := fun k => tourkeep5_FlowSteps.l1 k f (i : Int) 1 (f.length : Int) (i : Int) W H cost) (fun k => ?_) (steps_l g s (i : Int) (by omega) (by omega) _ _ ?_ 4 1 (by omega) (by omega))
    · rw [tourkeep5_FlowSteps.l0, if_pos (by omega)]
    · rw [swrap_in (by omega) (by omega)]; exact ih (i + 1) (by omega)
theorem FlowSteps : tourkeep5_FlowSteps.Pure := by
  intro l0 l1 h1 h2 h3 h4 h5 h6
  obtain ⟨W, H, cost, hg, g⟩ := grid_ev l0 (by omega)
  have hl := g.len
  have hb := g.big
  obtain ⟨R, hR, hR1, hR2⟩ := within_ev l1 (cost.length : Int) (by omega)
  obtain ⟨f, hf, s⟩ := field_ev g (goals := R) (fun i hi => by have := hR2 i hi; omega) (by omega)
  refine Ev.rounds ?_
  unfold tourkeep5_FlowSteps.f
  refine Ev.bind flows_ev ?_
  simp only [if_true]
  refine Ev.bind hg (Ev.bind hR (Ev.bind hf ?_))
  simp only [if_true]
  refine Ev.step (f := fun k => tourkeep5_FlowSteps.l0 k f (f.length : Int) ((0 : Nat) : Int) W H cost) (fun k => ?_) (steps_all g s f.length 0 (by omega))
  rw [tourkeep5_FlowSteps.j0, s.len, bne_self_eq_false, if_neg (by simp)]
  rfl
end Go.Proofs.Ytmpfboilodlfnaa.Pure
