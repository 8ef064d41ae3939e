/- What all laws of grids lean on: right grids, the field's costs, goals within. Under the conditions that stand at each. -/
import Derived.Test.YtmpfboilodlfnaaSrcFlowMade
namespace Go.Proofs.Ytmpfboilodlfnaa.FlowComFlowMade
open Go Go.RowKit Go.Proofs.YtmpfboilodlfnaaW.PrintWords Go.Proofs.YtmpfboilodlfnaaW.PrintLast Go.Proofs.YtmpfboilodlfnaaW.PrintMore Go.Proofs.Ytmpfboilodlfnaa.PFlowMade Go.Proofs.Ytmpfboilodlfnaa.FlowSol Go.Proofs.Ytmpfboilodlfnaa.SrcFlowMade
set_option linter.unusedVariables false
theorem rd_nat (l : List Int) (i : Nat) (h : i < l.length) : rd l (i : Int) = l[i] := by
  unfold rd
  rw [Int.toNat_natCast, List.getD_eq_getElem?_getD, List.getElem?_eq_getElem h]; rfl
theorem check_l {W H : Int} {cost : List Int} (g : Grid W H cost) : ∀ d i : Nat, i + d = cost.length → Ev (fun k => flow_Check.l0 k cost (cost.length : Int) i) 0 := by
  have hb := g.big
  intro d
  induction d with
  | zero => intro i hd; exact Ev.step (f := fun _ => some 0) (fun k => by rw [flow_Check.l0, if_neg (by omega)]) (Ev.now _)
  | succ d ih =>
    intro i hd
    have hc := g.rd (i : Int) (by omega)
    refine Ev.step (f := fun k => flow_Check.l0 k cost (cost.length : Int) ((i + 1 : Nat) : Int)) (fun k => ?_) (ih (i + 1) (by omega))
    rw [flow_Check.l0, if_pos (by omega)]
    try rw [if_pos (by omega : (0 : Int) ≤ (i : Int)), if_pos (by omega : (i : Int) < (cost.length : Int))]
    rw [if_neg (by omega), if_neg (by omega), swrap_in (by omega) (by omega)]
    rfl
theorem check_ev {W H : Int} {cost : List Int} (g : Grid W H cost) : Ev (fun k => flow_Check.f k W H cost) 0 := by
  have hl := g.len
  have hb := g.big
  have h1 := g.w1
  have h2 := g.w2
  have h3 := g.h1
  have h4 := g.h2
  refine Ev.step (f := fun k => flow_Check.l0 k cost (cost.length : Int) ((0 : Nat) : Int)) (fun k => ?_) (check_l g cost.length 0 (by omega))
  unfold flow_Check.f
  rw [if_neg (by omega), if_neg (by omega), if_neg (by omega), decide_eq_false (by omega), flow_Check.j0, if_neg (by simp), swrap_in (by omega) (by omega), if_pos hl]
  rfl
theorem field_ev {W H : Int} {cost goals : List Int} (g : Grid W H cost) (hG : ∀ i ∈ goals, 0 ≤ i ∧ i < W * H) (hl : goals.length ≤ 900000000000) : ∃ r, Ev (fun k => flow_Field.f k W H cost goals) (r, 0) ∧ Sol W H cost goals r := by
  obtain ⟨r, hr, hs⟩ := FlowRun.fieldP_ends g hG
  refine ⟨r, Ev.bind (f := fun _ c => flow_Field.g W H cost goals c) (check_ev g) ⟨0, fun k _ => ?_⟩, hs⟩
  show flow_Field.g W H cost goals 0 = _
  unfold flow_Field.g
  rw [if_neg (by simp), if_pos hG, if_pos hl, hr]
  rfl
theorem step_ev {W H : Int} {cost : List Int} (g : Grid W H cost) (c d : Int) : Ev (fun k => flow_Step.f k W H cost c d) (stepP W H c d) :=
  ⟨1, fun k hk => by
    obtain ⟨m, rfl⟩ : ∃ m, k = m + 1 := ⟨k - 1, by omega⟩
    exact flow_Field.step_ok m cost g.w1 g.w2 g.h1 g.h2 c d⟩
end Go.Proofs.Ytmpfboilodlfnaa.FlowComFlowMade
