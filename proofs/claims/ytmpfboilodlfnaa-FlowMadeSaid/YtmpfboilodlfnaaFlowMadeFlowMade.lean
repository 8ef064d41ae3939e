/- The grids that are made are right; goals within them. Under the conditions that stand at each. -/
import Derived.Test.YtmpfboilodlfnaaFlowComFlowMade
namespace Go.Proofs.Ytmpfboilodlfnaa.FlowMadeFlowMade
open Go Go.RowKit Go.Proofs.YtmpfboilodlfnaaW.PrintWords Go.Proofs.YtmpfboilodlfnaaW.PrintLast Go.Proofs.YtmpfboilodlfnaaW.PrintMore Go.Proofs.Ytmpfboilodlfnaa.PFlowMade Go.Proofs.Ytmpfboilodlfnaa.FlowSol Go.Proofs.Ytmpfboilodlfnaa.SrcFlowMade Go.Proofs.Ytmpfboilodlfnaa.FlowComFlowMade
set_option linter.unusedVariables false
theorem grid_l (l : List Int) (hl : l.length ≤ 4611686018427387904) (W H : Int) (n : Nat) (hn : n ≤ 4096) : ∀ d i : Nat, i + d = n → ∀ (j : Int) (c : List Int), 0 ≤ j → j ≤ l.length → c.length = i → (∀ x ∈ c, 0 ≤ x ∧ x ≤ 1000) →
    ∃ R, Ev (fun k => tourref5_Grid.l0 k (n : Int) (i : Int) l j W H c) (W, H, R) ∧ R.length = n ∧ ∀ x ∈ R, 0 ≤ x ∧ x ≤ 1000 := by
  intro d
  induction d with
  | zero =>
    intro i hd j c _ _ hc hx
    exact ⟨c, Ev.step (f := fun _ => some (W, H, c)) (fun k => by rw [tourref5_Grid.l0, if_neg (by omega)]) (Ev.now _), by omega, hx⟩
  | succ d ih =>
    intro i hd j c h0 h1 hc hx
    obtain ⟨b, j1, e, hb, q0, q1⟩ := n_ok l hl j 14 ⟨h0, h1⟩ (by omega)
    by_cases h9 : b > 9
    · obtain ⟨R, hR, h⟩ := ih (i + 1) (by omega) j1 (c ++ [0]) q0 q1 (by simp [hc]) (fun x hx' => by
        rcases List.mem_append.1 hx' with h | h
        · exact hx x h
        · obtain rfl := List.mem_singleton.1 h; omega)
      refine ⟨R, Ev.step (fun k => ?_) hR, h⟩
      rw [tourref5_Grid.l0, if_pos (by omega), e]
      simp only [Option.bind_some]
      rw [if_pos h9, if_pos (by omega), swrap_in (by omega) (by omega)]
      rfl
    · obtain ⟨R, hR, h⟩ := ih (i + 1) (by omega) j1 (c ++ [b]) q0 q1 (by simp [hc]) (fun x hx' => by
        rcases List.mem_append.1 hx' with h | h
        · exact hx x h
        · obtain rfl := List.mem_singleton.1 h; omega)
      refine ⟨R, Ev.step (fun k => ?_) hR, h⟩
      rw [tourref5_Grid.l0, if_pos (by omega), e]
      simp only [Option.bind_some]
      rw [if_neg h9, if_pos (by omega), swrap_in (by omega) (by omega)]
      rfl
theorem grid_ev (l : List Int) (hl : l.length ≤ 4611686018427387904) : ∃ W H cost, Ev (fun k => tourref5_Grid.f k l) (W, H, cost) ∧ Grid W H cost := by
  obtain ⟨b1, j1, e1, hb1, q1, r1⟩ := n_ok l hl 0 7 ⟨by omega, by omega⟩ (by omega)
  obtain ⟨b2, j2, e2, hb2, q2, r2⟩ := n_ok l hl j1 6 ⟨q1, r1⟩ (by omega)
  have m0 : 0 ≤ (1 + b1) * (1 + b2) := Int.mul_nonneg (by omega) (by omega)
  have m1 : (1 + b1) * (1 + b2) ≤ 64 * 64 := le_mul (by omega) (by omega) (by omega) (by omega)
  obtain ⟨n, hn⟩ : ∃ n : Nat, (1 + b1) * (1 + b2) = n := ⟨((1 + b1) * (1 + b2)).toNat, by omega⟩
  obtain ⟨R, hR, h1, h2⟩ := grid_l l hl (1 + b1) (1 + b2) n (by omega) n 0 (by omega) j2 [] q2 r2 rfl (by simp)
  refine ⟨1 + b1, 1 + b2, R, ?_, ⟨by omega, by omega, by omega, by omega, by omega, h2⟩⟩
  refine Ev.congr (fun k => ?_) hR
  unfold tourref5_Grid.f tourref5_From.f
  simp only [Option.bind_some]
  rw [e1]
  simp only [Option.bind_some]
  rw [e2]
  simp only [Option.bind_some]
  rw [swrap_in (x := 1 + b1) (by omega) (by omega), swrap_in (x := 1 + b2) (by omega) (by omega), hn, swrap_in (by omega) (by omega)]
  rfl
end Go.Proofs.Ytmpfboilodlfnaa.FlowMadeFlowMade
