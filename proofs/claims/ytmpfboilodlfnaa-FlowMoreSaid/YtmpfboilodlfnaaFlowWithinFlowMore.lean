/- Numbers that are made goals: they lie within. Under the conditions that stand at each. -/
import Derived.Test.YtmpfboilodlfnaaFlowMadeFlowMore
namespace Go.Proofs.Ytmpfboilodlfnaa.FlowWithinFlowMore
open Go Go.RowKit Go.Proofs.YtmpfboilodlfnaaW.PrintWords Go.Proofs.YtmpfboilodlfnaaW.PrintLast Go.Proofs.YtmpfboilodlfnaaW.PrintMore Go.Proofs.Ytmpfboilodlfnaa.PFlowMore Go.Proofs.Ytmpfboilodlfnaa.FlowSol Go.Proofs.Ytmpfboilodlfnaa.SrcFlowMore Go.Proofs.Ytmpfboilodlfnaa.FlowComFlowMore
set_option linter.unusedVariables false
theorem within_l (n : Int) (hn : 0 < n ∧ n ≤ 4096) (l : List Int) (hl : l.length ≤ 5) : ∀ d i : Nat, i + d = l.length → ∀ c : List Int, c.length = i → (∀ x ∈ c, 0 ≤ x ∧ x < n) →
    ∃ R, Ev (fun k => tourkeep5_within.l0 k n c l (l.length : Int) (i : Int)) R ∧ R.length = l.length ∧ ∀ x ∈ R, 0 ≤ x ∧ x < n := by
  intro d
  induction d with
  | zero =>
    intro i hd c hc hx
    exact ⟨c, Ev.step (f := fun _ => some c) (fun k => by rw [tourkeep5_within.l0, if_neg (by omega)]) (Ev.now _), by omega, hx⟩
  | succ d ih =>
    intro i hd c hc hx
    obtain ⟨b, e, h0, h1⟩ := below_ok (rd l (i : Int)) n ⟨hn.1, by omega⟩
    obtain ⟨R, hR, h⟩ := ih (i + 1) (by omega) (c ++ [b]) (by simp [hc]) (fun x hx' => by
      rcases List.mem_append.1 hx' with h | h
      · exact hx x h
      · obtain rfl := List.mem_singleton.1 h; omega)
    refine ⟨R, Ev.step (fun k => ?_) hR, h⟩
    rw [tourkeep5_within.l0, if_pos (by omega), if_pos (by omega), if_pos (by omega), e]
    simp only [Option.bind_some]
    rw [if_pos (by omega), swrap_in (by omega) (by omega)]
    rfl
theorem within_ev (l : List Int) (n : Int) (hn : 0 < n ∧ n ≤ 4096) : ∃ R, Ev (fun k => tourkeep5_within.f k l n) R ∧ R.length ≤ 5 ∧ ∀ x ∈ R, 0 ≤ x ∧ x < n := by
  have hm : 0 ≤ mn (l.length : Int) 5 ∧ mn (l.length : Int) 5 ≤ l.length ∧ mn (l.length : Int) 5 ≤ 5 := by unfold mn; split <;> omega
  have hl : (l.take (mn (l.length : Int) 5).toNat).length ≤ 5 := by rw [List.length_take]; omega
  obtain ⟨R, hR, h1, h2⟩ := within_l n hn _ hl _ 0 (Nat.zero_add _) [] rfl (by simp)
  refine ⟨R, Ev.congr (fun k => ?_) hR, by omega, h2⟩
  unfold tourkeep5_within.f
  rw [if_pos hm.1, if_pos hm.2.1]
  rfl
theorem flows_ev : Ev (fun k => tourkeep5_flows.f k) true := Ev.of tourkeep5_flows.mono (k := 30) (by decide +kernel)
end Go.Proofs.Ytmpfboilodlfnaa.FlowWithinFlowMore
