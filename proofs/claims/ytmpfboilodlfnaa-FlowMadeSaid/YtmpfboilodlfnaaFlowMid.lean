/- The reference's costs in the making: what holds at each step, and a number that falls. Under no condition but what stands at each. -/
import Derived.Test.YtmpfboilodlfnaaFlowSol
namespace Go.Proofs.Ytmpfboilodlfnaa.FlowMid
open Go.RowKit Go.Proofs.YtmpfboilodlfnaaW.PrintWords Go.Proofs.Ytmpfboilodlfnaa.FlowHeap Go.Proofs.Ytmpfboilodlfnaa.FlowSol
set_option linter.unusedVariables false
/-- How many cells have a cost. -/
def has (out : List Int) : Nat := out.countP fun x => decide (0 ≤ x)
/-- A number that falls at each step. -/
def mu (B : Nat) (out : List Int) : Nat := (out.map fun x => if x < 0 then B else x.toNat).sum
theorem mu_set (B : Nat) (x : Int) : ∀ (out : List Int) (i : Nat) (h : i < out.length), mu B (out.set i x) + (if out[i] < 0 then B else (out[i]).toNat) = mu B out + (if x < 0 then B else x.toNat)
  | a :: l, 0, h => by simp only [mu, List.set_cons_zero, List.map_cons, List.sum_cons, List.getElem_cons_zero]; omega
  | a :: l, i + 1, h => by
    have := mu_set B x l i (by simpa using h)
    simp only [mu, List.set_cons_succ, List.map_cons, List.sum_cons, List.getElem_cons_succ] at this ⊢
    omega
theorem has_set (x : Int) (hx : 0 ≤ x) : ∀ (out : List Int) (i : Nat) (h : i < out.length), has (out.set i x) = has out + (if out[i] < 0 then 1 else 0)
  | a :: l, 0, h => by
    simp only [has, List.set_cons_zero, List.countP_cons, List.getElem_cons_zero, decide_eq_true hx, if_true]
    by_cases ha : a < 0
    · rw [if_pos ha, decide_eq_false (by omega)]; simp
    · rw [if_neg ha, decide_eq_true (by omega)]; simp
  | a :: l, i + 1, h => by
    have := has_set x hx l i (by simpa using h)
    simp only [has, List.set_cons_succ, List.countP_cons, List.getElem_cons_succ] at this ⊢
    omega
theorem has_le (out : List Int) : has out ≤ out.length := List.countP_le_length
/-- What holds at each step. -/
structure Mid (W H : Int) (cost goals out : List Int) : Prop where
  len : out.length = cost.length
  low : ∀ i, 0 ≤ i → i < W * H → -1 ≤ rd out i
  top : ∀ i, 0 ≤ i → i < W * H → rd out i ≤ 1000 * (has out : Int)
  goal : ∀ i, i ∈ goals → 0 < rd cost i → rd out i = 0
  att : ∀ i, 0 ≤ i → i < W * H → 0 ≤ rd out i → 0 < rd cost i ∧ ((i ∈ goals ∧ rd out i = 0) ∨ ∃ d n, 1 ≤ d ∧ d ≤ 4 ∧ stepP W H i d = n ∧ 0 ≤ n ∧ 0 ≤ rd out n ∧ 0 < rd cost n ∧ rd out n + rd cost n ≤ rd out i)
section
variable {W H : Int} {cost goals goals' out : List Int}
theorem Mid.start (g : Grid W H cost) : Mid W H cost [] (List.replicate cost.length (-1)) := by
  have hl := g.len
  have e : ∀ i, 0 ≤ i → i < W * H → rd (List.replicate cost.length (-1)) i = -1 := fun i h0 h1 => by
    unfold rd
    rw [List.getD_eq_getElem?_getD, List.getElem?_eq_getElem (by simp; omega)]; simp
  refine ⟨by simp, fun i h0 h1 => by rw [e i h0 h1]; omega, fun i h0 h1 => by rw [e i h0 h1]; omega, fun i h => by simp at h, fun i h0 h1 h2 => by rw [e i h0 h1] at h2; omega⟩
/-- A cell gets a cost. -/
theorem Mid.upd (g : Grid W H cost) (I : Mid W H cost goals out) (i x : Int) (h0 : 0 ≤ i) (h1 : i < W * H) (hc : 0 < rd cost i) (hx : 0 ≤ x) (hf : rd out i < 0 → x ≤ 1000 * ((has out : Int) + 1)) (hd : 0 ≤ rd out i → x ≤ rd out i)
    (hG : ∀ j, j ∈ goals → j ∈ goals') (hG' : ∀ j, j ∈ goals' → j ∈ goals ∨ j = i) (hgi : i ∈ goals' → x = 0) (hw : ∀ j, j ∈ goals' → 0 ≤ j)
    (ha : (i ∈ goals' ∧ x = 0) ∨ ∃ d n, 1 ≤ d ∧ d ≤ 4 ∧ stepP W H i d = n ∧ 0 ≤ n ∧ 0 ≤ rd out n ∧ 0 < rd cost n ∧ rd out n + rd cost n ≤ x) : Mid W H cost goals' (out.set i.toNat x) := by
  have hl := g.len
  have ho := I.len
  have io : i < out.length := by omega
  have e : ∀ j, 0 ≤ j → rd (out.set i.toNat x) j = if i = j then x else rd out j := fun j h => rd_set h0 io h
  have hi : rd out i = out[i.toNat]'(by omega) := by unfold rd; rw [List.getD_eq_getElem?_getD, List.getElem?_eq_getElem (by omega)]; rfl
  have hs := has_set x hx out i.toNat (by omega)
  rw [← hi] at hs
  refine ⟨by rw [List.length_set]; exact ho, fun j a b => ?_, fun j a b => ?_, fun j a b => ?_, fun j a b c => ?_⟩
  · rw [e j a]
    split
    · omega
    · exact I.low j a b
  · rw [e j a, hs]
    have tj := I.top j a b
    have ti := I.top i h0 h1
    by_cases q : rd out i < 0
    · have := hf q
      rw [if_pos q]
      split <;> omega
    · have := hd (by omega)
      rw [if_neg q]
      split <;> omega
  · by_cases q : i = j
    · subst q
      rw [e i h0, if_pos rfl]; exact hgi a
    · have ja : j ∈ goals := (hG' j a).resolve_right fun h => q h.symm
      have := I.goal j ja b
      rw [e j (hw j a), if_neg q]; exact this
  · rw [e j a] at c ⊢
    have keep : ∀ n, 0 ≤ n → 0 ≤ rd out n → 0 ≤ rd (out.set i.toNat x) n ∧ rd (out.set i.toNat x) n ≤ rd out n := fun n n0 nn => by
      rw [e n n0]
      split
      · rename_i q; subst q; exact ⟨hx, hd nn⟩
      · exact ⟨nn, Int.le_refl _⟩
    by_cases q : i = j
    · subst q
      rw [if_pos rfl] at c ⊢
      refine ⟨hc, ?_⟩
      rcases ha with ha | ⟨d, n, d1, d2, s, n0, nn, cn, le⟩
      · exact .inl ha
      · have := keep n n0 nn
        exact .inr ⟨d, n, d1, d2, s, n0, this.1, cn, by omega⟩
    · rw [if_neg q] at c ⊢
      obtain ⟨p, h | ⟨d, n, d1, d2, s, n0, nn, cn, le⟩⟩ := I.att j a b c
      · exact ⟨p, .inl ⟨hG j h.1, h.2⟩⟩
      · have := keep n n0 nn
        exact ⟨p, .inr ⟨d, n, d1, d2, s, n0, this.1, cn, by omega⟩⟩
/-- The number falls. -/
theorem Mid.fall (g : Grid W H cost) (I : Mid W H cost goals out) (i x : Int) (h0 : 0 ≤ i) (h1 : i < W * H) (hx : 0 ≤ x) (hd : rd out i < 0 ∧ x ≤ 1000 * (cost.length : Int) ∨ x < rd out i) : mu (1000 * cost.length + 1) (out.set i.toNat x) < mu (1000 * cost.length + 1) out := by
  have hl := g.len
  have ho := I.len
  have hi : rd out i = out[i.toNat]'(by omega) := by unfold rd; rw [List.getD_eq_getElem?_getD, List.getElem?_eq_getElem (by omega)]; rfl
  have := mu_set (1000 * cost.length + 1) x out i.toNat (by omega)
  rw [← hi, if_neg (show ¬ x < 0 by omega)] at this
  split at this <;> omega
/-- A cell and a way from it: nothing to be had. -/
def Done (W H : Int) (cost out : List Int) (i d : Int) : Prop := 0 < rd cost i → 0 ≤ stepP W H i d → 0 ≤ rd out (stepP W H i d) → 0 ≤ rd out i ∧ rd out i ≤ rd out (stepP W H i d) + rd cost (stepP W H i d)
theorem Mid.sol (g : Grid W H cost) (I : Mid W H cost goals out) (h : ∀ i d, 0 ≤ i → i < W * H → 1 ≤ d → d ≤ 4 → Done W H cost out i d) : Sol W H cost goals out := by
  have hl := g.len
  refine ⟨I.len, I.low, fun i h0 h1 => ?_, I.goal, fun i d n d1 d2 s n0 ci nn => ?_, fun i h0 h1 h2 => ?_⟩
  · have := I.top i h0 h1
    have := has_le out
    have := I.len
    omega
  · obtain ⟨i0, i1, _⟩ := stepP_sym s n0 ⟨d1, d2⟩
    have := h i d i0 i1 d1 d2
    unfold Done at this
    rw [s] at this
    exact this ci n0 nn
  · obtain ⟨p, q | ⟨d, n, d1, d2, s, n0, nn, cn, le⟩⟩ := I.att i h0 h1 h2
    · exact ⟨p, .inl q⟩
    · have := h i d h0 h1 d1 d2
      unfold Done at this
      rw [s] at this
      have := this p n0 nn
      exact ⟨p, .inr ⟨d, n, d1, d2, s, n0, nn, cn, by omega⟩⟩
end
end Go.Proofs.Ytmpfboilodlfnaa.FlowMid
