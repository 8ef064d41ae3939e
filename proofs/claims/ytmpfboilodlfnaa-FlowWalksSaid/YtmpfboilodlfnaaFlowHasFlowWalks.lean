/- slices.Contains over whole numbers. Under the conditions that stand at each. -/
import Derived.Test.YtmpfboilodlfnaaSrcFlowWalks
namespace Go.Proofs.Ytmpfboilodlfnaa.FlowHasFlowWalks
open Go Go.RowKit Go.Proofs.YtmpfboilodlfnaaW.PrintWords Go.Proofs.YtmpfboilodlfnaaW.PrintLast Go.Proofs.YtmpfboilodlfnaaW.PrintMore Go.Proofs.Ytmpfboilodlfnaa.PFlowWalks Go.Proofs.Ytmpfboilodlfnaa.SrcFlowWalks
set_option linter.unusedVariables false
theorem index_l (l : List Int) (hl : l.length ≤ 1000000000) (a : Int) : ∀ d i : Nat, i + d = l.length → ∃ r, Ev (fun k => slices_Index_int_int.l0 k l a (l.length : Int) (i : Int)) r ∧ (0 ≤ r ↔ a ∈ l.drop i) := by
  intro d
  induction d with
  | zero =>
    intro i hd
    refine ⟨-1, Ev.step (f := fun _ => some (-1)) (fun k => by rw [slices_Index_int_int.l0, if_neg (by omega)]) (Ev.now _), ?_⟩
    rw [List.drop_of_length_le (by omega)]
    simp
  | succ d ih =>
    intro i hd
    obtain ⟨r, hr, hm⟩ := ih (i + 1) (by omega)
    have hx : rd l (i : Int) = l[i]'(by omega) := by unfold rd; rw [Int.toNat_natCast, List.getD_eq_getElem?_getD, List.getElem?_eq_getElem (by omega)]; rfl
    rw [List.drop_eq_getElem_cons (by omega)]
    by_cases h : a = rd l (i : Int)
    · refine ⟨i, Ev.step (f := fun _ => some (i : Int)) (fun k => by rw [slices_Index_int_int.l0, if_pos (by omega), if_pos (by omega), if_pos (by omega), if_pos h]) (Ev.now _), ?_⟩
      rw [← hx, ← h]
      simp
    · refine ⟨r, Ev.step (fun k => ?_) hr, ?_⟩
      · rw [slices_Index_int_int.l0, if_pos (by omega), if_pos (by omega), if_pos (by omega), if_neg h, swrap_in (by omega) (by omega)]
        rfl
      · rw [hm, ← hx, List.mem_cons]
        exact ⟨fun h' => .inr h', fun h' => h'.resolve_left h⟩
theorem has_ev (l : List Int) (hl : l.length ≤ 1000000000) (a : Int) : Ev (fun k => slices_Contains_int_int.f k l a) (decide (a ∈ l)) := by
  obtain ⟨r, hr, hm⟩ := index_l l hl a l.length 0 (by omega)
  rw [List.drop_zero] at hm
  unfold slices_Contains_int_int.f
  refine Ev.bind (show Ev (fun k => slices_Index_int_int.f k l a) r from hr) ⟨0, fun _ _ => congrArg some (decide_eq_decide.2 hm)⟩
end Go.Proofs.Ytmpfboilodlfnaa.FlowHasFlowWalks
