/- The reference's next cell is the program's; what the two tell of any grid. Under the conditions that stand at each. -/
import Derived.Test.YtmpfboilodlfnaaFlowComFlowMade
import Derived.Test.YtmpfboilodlfnaaFlowMid
namespace Go.Proofs.Ytmpfboilodlfnaa.FlowBeyondFlowMade
open Go Go.RowKit Go.Proofs.YtmpfboilodlfnaaW.PrintWords Go.Proofs.YtmpfboilodlfnaaW.PrintLast Go.Proofs.YtmpfboilodlfnaaW.PrintMore Go.Proofs.Ytmpfboilodlfnaa.PFlowMade Go.Proofs.Ytmpfboilodlfnaa.FlowSol Go.Proofs.Ytmpfboilodlfnaa.FlowMid Go.Proofs.Ytmpfboilodlfnaa.SrcFlowMade Go.Proofs.Ytmpfboilodlfnaa.FlowComFlowMade
set_option linter.unusedVariables false
theorem beyond_any (W H : Int) (cost : List Int) (c d : Int) : Ev (fun k => tourref5_Beyond.f k W H cost c d) (stepP W H c d) := by
  have out : ∀ f : Nat → Option Int, (∀ k, f k = tourref5_Beyond.j0 k c d true W H cost) → stepP W H c d = -1 → Ev f (stepP W H c d) := fun f hf e => by
    rw [e]
    refine Ev.congr hf (Ev.step (f := fun _ => some (-1)) (fun k => ?_) (Ev.now _))
    rw [tourref5_Beyond.j0, if_pos rfl]
  by_cases hg : W < 1 ∨ W > 64 ∨ H < 1 ∨ H > 64 ∨ c < 0
  · refine out _ (fun k => ?_) (by unfold stepP; rw [if_pos (by omega)])
    unfold tourref5_Beyond.f
    (repeat' split) <;> first | rfl | omega
  · have b1 : 0 ≤ W * H := Int.mul_nonneg (by omega) (by omega)
    have b2 : W * H ≤ 64 * 64 := le_mul (by omega) (by omega) (by omega) (by omega)
    have hw : wrap64 (W * H) = W * H := swrap_in (by omega) (by omega)
    by_cases hc : c ≥ W * H
    · refine out _ (fun k => ?_) (by unfold stepP; rw [if_pos (by omega)])
      unfold tourref5_Beyond.f
      rw [hw]
      (repeat' split) <;> first | rfl | omega
    · by_cases hd : d < 0 ∨ d > 4
      · refine out _ (fun k => ?_) (by unfold stepP; rw [if_neg (by omega)]; dsimp only; rw [if_neg (by omega), if_neg (by omega), if_neg (by omega), if_neg (by omega), if_neg (by omega)])
        unfold tourref5_Beyond.f
        rw [hw]
        by_cases d0 : d < 0
        · (repeat' split) <;> first | rfl | omega
        · rw [decide_eq_true (show d > 4 by omega)]
          (repeat' split) <;> first | rfl | omega
      · obtain ⟨a1, a2, a3, a4, a5⟩ := unlay (W := W) (H := H) (c := c) (by omega) (by omega) (by omega)
        have em : Int.tmod c W = c % W := Int.tmod_eq_emod_of_nonneg (by omega)
        have ed : Int.tdiv c W = c / W := Int.tdiv_eq_ediv_of_nonneg (by omega)
        have wy : wrap64 (c / W) = c / W := swrap_in (by omega) (by omega)
        have fin : ∀ p q : Int, -1 ≤ p → p ≤ 1 → -1 ≤ q → q ≤ 1 → (if wrap64 (c % W + p) < 0 then some (-1) else (if wrap64 (c % W + p) ≥ W then some (-1) else (if wrap64 (c / W + q) < 0 then some (-1) else (if wrap64 (c / W + q) ≥ H then some (-1) else some (wrap64 (wrap64 (c % W + p) + wrap64 (wrap64 (c / W + q) * W)))))))
            = some (if c % W + p < 0 ∨ c % W + p ≥ W ∨ c / W + q < 0 ∨ c / W + q ≥ H then -1 else (c / W + q) * W + (c % W + p)) := by
          intro p q p1 p2 q1 q2
          rw [swrap_in (x := c % W + p) (by omega) (by omega), swrap_in (x := c / W + q) (by omega) (by omega)]
          by_cases h1 : c % W + p < 0
          · rw [if_pos h1, if_pos (.inl h1)]
          · rw [if_neg h1]
            by_cases h2 : c % W + p ≥ W
            · rw [if_pos h2, if_pos (.inr (.inl h2))]
            · rw [if_neg h2]
              by_cases h3 : c / W + q < 0
              · rw [if_pos h3, if_pos (.inr (.inr (.inl h3)))]
              · rw [if_neg h3]
                by_cases h4 : c / W + q ≥ H
                · rw [if_pos h4, if_pos (.inr (.inr (.inr h4)))]
                · obtain ⟨l1, l2, _⟩ := lay (W := W) (H := H) (x := c % W + p) (y := c / W + q) (by omega) (by omega) (by omega) (by omega) (by omega)
                  have l3 : 0 ≤ (c / W + q) * W := Int.mul_nonneg (by omega) (by omega)
                  rw [if_neg h4, if_neg (by omega), swrap_in (x := (c / W + q) * W) (by omega) (by omega), swrap_in (by omega) (by omega), Int.add_comm]
        refine Ev.step (f := fun _ => some (stepP W H c d)) (fun k => ?_) (Ev.now _)
        have h5 : d = 0 ∨ d = 1 ∨ d = 2 ∨ d = 3 ∨ d = 4 := by omega
        unfold tourref5_Beyond.f stepP
        rw [hw, if_neg (by omega), if_neg (by omega), if_neg (by omega), if_neg (by omega), if_neg (by omega), if_neg hc, if_neg (by omega), decide_eq_false (by omega), tourref5_Beyond.j0, if_neg (by simp), if_neg (by omega), if_neg (by omega)]
        simp only [Option.bind_some, em, ed, wy]
        rcases h5 with rfl | rfl | rfl | rfl | rfl
        · refine (fin (0) (0) (by omega) (by omega) (by omega) (by omega)).trans (congrArg some ?_)
          simp only [Int.add_zero, Int.sub_eq_add_neg, Int.reduceEq, if_true, if_false]
          rw [if_neg (by omega)]
        · refine (fin (1) (0) (by omega) (by omega) (by omega) (by omega)).trans (congrArg some ?_)
          simp only [Int.add_zero, Int.sub_eq_add_neg, Int.reduceEq, if_true, if_false]
          split <;> split <;> first | rfl | omega
        · refine (fin (0) (1) (by omega) (by omega) (by omega) (by omega)).trans (congrArg some ?_)
          simp only [Int.add_zero, Int.sub_eq_add_neg, Int.reduceEq, if_true, if_false]
          split <;> split <;> first | rfl | omega
        · refine (fin (-1) (0) (by omega) (by omega) (by omega) (by omega)).trans (congrArg some ?_)
          simp only [Int.add_zero, Int.sub_eq_add_neg, Int.reduceEq, if_true, if_false]
          split <;> split <;> first | rfl | omega
        · refine (fin (0) (-1) (by omega) (by omega) (by omega) (by omega)).trans (congrArg some ?_)
          simp only [Int.add_zero, Int.sub_eq_add_neg, Int.reduceEq, if_true, if_false]
          split <;> split <;> first | rfl | omega
end Go.Proofs.Ytmpfboilodlfnaa.FlowBeyondFlowMade
/- Any grid: the program's check and step are the reference's. Under no condition but what stands at each. -/
namespace Go.Proofs.Ytmpfboilodlfnaa.FlowAnyFlowMade
open Go Go.RowKit Go.Proofs.YtmpfboilodlfnaaW.PrintWords Go.Proofs.YtmpfboilodlfnaaW.PrintLast Go.Proofs.YtmpfboilodlfnaaW.PrintMore Go.Proofs.Ytmpfboilodlfnaa.PFlowMade Go.Proofs.Ytmpfboilodlfnaa.FlowSol Go.Proofs.Ytmpfboilodlfnaa.FlowMid Go.Proofs.Ytmpfboilodlfnaa.SrcFlowMade Go.Proofs.Ytmpfboilodlfnaa.FlowComFlowMade
set_option linter.unusedVariables false
theorem step_any (W H : Int) (cost : List Int) (c d : Int) : Ev (fun k => flow_Step.f k W H cost c d) (stepP W H c d) := by
  by_cases hg : W < 1 ∨ W > 64 ∨ H < 1 ∨ H > 64
  · have e : stepP W H c d = -1 := by unfold stepP; rw [if_pos (by omega)]
    rw [e]
    refine Ev.step (f := fun _ => some (-1)) (fun k => ?_) (Ev.now _)
    have j : flow_Step.j0 (k + 1) c d true W H cost = some (-1) := by rw [flow_Step.j0, if_pos rfl]
    unfold flow_Step.f
    (repeat' split) <;> first | exact j | omega
  · exact ⟨1, fun k hk => by
      obtain ⟨m, rfl⟩ : ∃ m, k = m + 1 := ⟨k - 1, by omega⟩
      exact flow_Field.step_ok m cost (by omega) (by omega) (by omega) (by omega) c d⟩
theorem check_bad {cost : List Int} (hb : cost.length ≤ 4096) : ∀ d i : Nat, i + d = cost.length → (∃ x ∈ cost.drop i, x < 0 ∨ x > 1000) → Ev (fun k => flow_Check.l0 k cost (cost.length : Int) (i : Int)) 1 := by
  intro d
  induction d with
  | zero => intro i hd ⟨x, hx, _⟩; rw [List.drop_of_length_le (by omega)] at hx; simp at hx
  | succ d ih =>
    intro i hd ⟨x, hx, hbad⟩
    have i1 : (i : Int) < (cost.length : Int) := by omega
    have i0 : (0 : Int) ≤ (i : Int) := by omega
    by_cases c1 : rd cost (i : Int) < 0
    · refine Ev.step (f := fun _ => some 1) (fun k => ?_) (Ev.now _)
      rw [flow_Check.l0, if_pos i1, if_pos i0, if_pos i1, if_pos c1]
    · by_cases c2 : rd cost (i : Int) > 1000
      · refine Ev.step (f := fun _ => some 1) (fun k => ?_) (Ev.now _)
        rw [flow_Check.l0, if_pos i1, if_pos i0, if_pos i1, if_neg c1, if_pos c2]
      · refine Ev.step (f := fun k => flow_Check.l0 k cost (cost.length : Int) ((i + 1 : Nat) : Int)) (fun k => ?_) (ih (i + 1) (by omega) ⟨x, ?_, hbad⟩)
        · rw [flow_Check.l0, if_pos i1, if_pos i0, if_pos i1, if_neg c1, if_neg c2, swrap_in (by omega) (by omega)]
          rfl
        · rw [List.drop_eq_getElem_cons (by omega), ← rd_nat cost i (by omega)] at hx
          rcases List.mem_cons.1 hx with h | h
          · subst h; omega
          · exact h
theorem check_any (W H : Int) (cost : List Int) : ∃ e, Ev (fun k => flow_Check.f k W H cost) e ∧ Ev (fun k => tourref5_GridFault.f k W H cost) e ∧ (e = 0 → Grid W H cost) := by
  by_cases hg : W < 1 ∨ H < 1 ∨ W > 64 ∨ H > 64
  · refine ⟨2, Ev.step (f := fun _ => some 2) (fun k => ?_) (Ev.now _), ⟨0, fun k _ => ?_⟩, fun h => by omega⟩
    · have j : flow_Check.j0 (k + 1) true W H cost = some 2 := by rw [flow_Check.j0, if_pos rfl]
      unfold flow_Check.f
      (repeat' split) <;> first | exact j | omega | (rw [decide_eq_true (by omega)]; exact j)
    · unfold tourref5_GridFault.f; rw [if_pos hg]
  · have start : ∀ k, flow_Check.f (k + 1) W H cost = if (cost.length : Int) = (wrap64 (W * H)) then (flow_Check.l0 k cost (cost.length : Int) ((0 : Nat) : Int)) else (some 3) := fun k => by
      unfold flow_Check.f
      rw [if_neg (by omega), if_neg (by omega), if_neg (by omega), decide_eq_false (by omega), flow_Check.j0, if_neg (by simp)]
      rfl
    by_cases hl : (cost.length : Int) = wrap64 (W * H)
    · have b1 : 0 ≤ W * H := Int.mul_nonneg (by omega) (by omega)
      have b2 : W * H ≤ 64 * 64 := le_mul (by omega) (by omega) (by omega) (by omega)
      have hw : wrap64 (W * H) = W * H := swrap_in (by omega) (by omega)
      by_cases hb : cost.any tourref5_GridFault.bad = true
      · refine ⟨1, Ev.step (fun k => (start k).trans (if_pos hl)) (check_bad (by omega) cost.length 0 (by omega) ?_), ⟨0, fun k _ => ?_⟩, fun h => by omega⟩
        · obtain ⟨x, hx, h⟩ := List.any_eq_true.1 hb
          unfold tourref5_GridFault.bad at h
          exact ⟨x, by simpa using hx, of_decide_eq_true h⟩
        · unfold tourref5_GridFault.f; rw [if_neg hg, if_neg (by simpa using hl), if_pos hb]
      · have g : Grid W H cost := by
          refine ⟨by omega, by omega, by omega, by omega, by omega, fun x hx => ?_⟩
          by_cases h : x < 0 ∨ x > 1000
          · exact absurd (List.any_eq_true.2 ⟨x, hx, by unfold tourref5_GridFault.bad; exact decide_eq_true h⟩) hb
          · omega
        refine ⟨0, check_ev g, ⟨0, fun k _ => ?_⟩, fun _ => g⟩
        unfold tourref5_GridFault.f; rw [if_neg hg, if_neg (by simpa using hl), if_neg hb]
    · refine ⟨3, Ev.step (f := fun _ => some 3) (fun k => (start k).trans (if_neg hl)) (Ev.now _), ⟨0, fun k _ => ?_⟩, fun h => by omega⟩
      unfold tourref5_GridFault.f; rw [if_neg hg, if_pos hl]
end Go.Proofs.Ytmpfboilodlfnaa.FlowAnyFlowMade
/- The reference's costs are what least costs are. Under the conditions that stand at each. -/
namespace Go.Proofs.Ytmpfboilodlfnaa.FlowCostsFlowMade
open Go Go.RowKit Go.Proofs.YtmpfboilodlfnaaW.PrintWords Go.Proofs.YtmpfboilodlfnaaW.PrintLast Go.Proofs.YtmpfboilodlfnaaW.PrintMore Go.Proofs.Ytmpfboilodlfnaa.PFlowMade Go.Proofs.Ytmpfboilodlfnaa.FlowSol Go.Proofs.Ytmpfboilodlfnaa.FlowMid Go.Proofs.Ytmpfboilodlfnaa.SrcFlowMade Go.Proofs.Ytmpfboilodlfnaa.FlowComFlowMade Go.Proofs.Ytmpfboilodlfnaa.FlowBeyondFlowMade
set_option linter.unusedVariables false
section
variable {W H : Int} {cost goals : List Int}
/-- One cell, from a way on. -/
theorem dirs_l (g : Grid W H cost) (hG : ∀ i ∈ goals, 0 ≤ i ∧ i < W * H) (i : Int) (h0 : 0 ≤ i) (h1 : i < W * H) (m p : Int) : ∀ (n : Nat) (d : Int), 1 ≤ d → d + n = 5 → ∀ (out : List Int) (b : Bool), Mid W H cost goals out →
    ∃ out' b', Mid W H cost goals out' ∧ mu (1000 * cost.length + 1) out' ≤ mu (1000 * cost.length + 1) out ∧ (b' = false → b = false ∧ out' = out ∧ ∀ e, d ≤ e → e ≤ 4 → Done W H cost out i e) ∧ (b' = true → b = true ∨ mu (1000 * cost.length + 1) out' < mu (1000 * cost.length + 1) out) ∧
      ∀ R, Ev (fun k => tourref5_Costs.l2 k out' b' m (wrap64 (p + 1)) W H cost) R → Ev (fun k => tourref5_Costs.l3 k out b i d m p W H cost) R := by
  have hl := g.len
  have hb := g.big
  intro n
  induction n with
  | zero =>
    intro d _ hd out b I
    refine ⟨out, b, I, Nat.le_refl _, fun h => ⟨h, rfl, fun e h1 h2 => by omega⟩, fun h => .inl h, fun R h => ?_⟩
    refine Ev.step (f := fun k => tourref5_Costs.j4 k out b i d m p false W H cost) (fun k => by rw [tourref5_Costs.l3, if_neg (by omega)]) ?_
    exact Ev.step (f := fun k => tourref5_Costs.l2 k out b m (wrap64 (p + 1)) W H cost) (fun k => by rw [tourref5_Costs.j4, if_neg (by simp)]) h
  | succ n ih =>
    intro d d1 hd out b I
    have ho := I.len
    have i1 : i < (cost.length : Int) := by omega
    have o1 : i < (out.length : Int) := by omega
    have ci := g.rd i h0
    have at3 : ∀ R, Ev (fun k => tourref5_Costs.j4 k out b i d m p (decide ((rd cost i) > 0)) W H cost) R → Ev (fun k => tourref5_Costs.l3 k out b i d m p W H cost) R := fun R h =>
      Ev.step (f := fun k => tourref5_Costs.j4 k out b i d m p (decide ((rd cost i) > 0)) W H cost) (fun k => by rw [tourref5_Costs.l3, if_pos (by omega), if_pos h0, if_pos i1]) h
    by_cases hc : rd cost i > 0
    · rw [decide_eq_true hc] at at3
      have hw : wrap64 (d + 1) = d + 1 := swrap_in (by omega) (by omega)
      have at4 : ∀ R F, (∀ k, F k = (if stepP W H i d ≥ 0 then (if 0 ≤ stepP W H i d then (if stepP W H i d < (out.length : Int) then (if (rd out (stepP W H i d)) ≥ 0 then (if 0 ≤ i then (if i < (out.length : Int) then (if (rd out i) < 0 then (if stepP W H i d < (cost.length : Int) then (tourref5_Costs.l3 k (out.set (i : Int).toNat (wrap64 ((rd out (stepP W H i d)) + (rd cost (stepP W H i d))))) true i (d + 1) m p W H cost) else (none)) else (if stepP W H i d < (cost.length : Int) then (if (wrap64 ((rd out (stepP W H i d)) + (rd cost (stepP W H i d)))) < (rd out i) then (tourref5_Costs.l3 k (out.set (i : Int).toNat (wrap64 ((rd out (stepP W H i d)) + (rd cost (stepP W H i d))))) true i (d + 1) m p W H cost) else (tourref5_Costs.l3 k out b i (d + 1) m p W H cost)) else (none))) else (none)) else (none)) else (tourref5_Costs.l3 k out b i (d + 1) m p W H cost)) else (none)) else (none)) else (tourref5_Costs.l3 k out b i (d + 1) m p W H cost))) → Ev F R → Ev (fun k => tourref5_Costs.l3 k out b i d m p W H cost) R := fun R F hF h => by
        refine at3 R (Ev.step (f := fun k => (tourref5_Beyond.f k W H cost i d).bind fun t => if t ≥ 0 then (if 0 ≤ t then (if t < (out.length : Int) then (if (rd out t) ≥ 0 then (if 0 ≤ i then (if i < (out.length : Int) then (if (rd out i) < 0 then (if t < (cost.length : Int) then (tourref5_Costs.l3 k (out.set (i : Int).toNat (wrap64 ((rd out t) + (rd cost t)))) true i (wrap64 (d + 1)) m p W H cost) else (none)) else (if t < (cost.length : Int) then (if (wrap64 ((rd out t) + (rd cost t))) < (rd out i) then (tourref5_Costs.l3 k (out.set (i : Int).toNat (wrap64 ((rd out t) + (rd cost t)))) true i (wrap64 (d + 1)) m p W H cost) else (tourref5_Costs.l3 k out b i (wrap64 (d + 1)) m p W H cost)) else (none))) else (none)) else (none)) else (tourref5_Costs.l3 k out b i (wrap64 (d + 1)) m p W H cost)) else (none)) else (none)) else (tourref5_Costs.l3 k out b i (wrap64 (d + 1)) m p W H cost)) (fun k => by rw [tourref5_Costs.j4, if_pos rfl]) (Ev.bind (beyond_any W H cost i d) ?_))
        simp only [hw]
        exact Ev.congr (fun k => (hF k).symm) h
      have pass : Done W H cost out i d → (∀ R, Ev (fun k => tourref5_Costs.l3 k out b i (d + 1) m p W H cost) R → Ev (fun k => tourref5_Costs.l3 k out b i d m p W H cost) R) → ∃ out' b', Mid W H cost goals out' ∧ mu (1000 * cost.length + 1) out' ≤ mu (1000 * cost.length + 1) out ∧ (b' = false → b = false ∧ out' = out ∧ ∀ e, d ≤ e → e ≤ 4 → Done W H cost out i e) ∧ (b' = true → b = true ∨ mu (1000 * cost.length + 1) out' < mu (1000 * cost.length + 1) out) ∧
          ∀ R, Ev (fun k => tourref5_Costs.l2 k out' b' m (wrap64 (p + 1)) W H cost) R → Ev (fun k => tourref5_Costs.l3 k out b i d m p W H cost) R := fun D hn => by
        obtain ⟨out', b', I', le, f, t, ev⟩ := ih (d + 1) (by omega) (by omega) out b I
        refine ⟨out', b', I', le, fun h => ⟨(f h).1, (f h).2.1, fun e e1 e2 => ?_⟩, t, fun R h => hn R (ev R h)⟩
        by_cases q : e = d
        · subst q; exact D
        · exact (f h).2.2 e (by omega) e2
      by_cases t1 : stepP W H i d ≥ 0
      · obtain ⟨_, _, t5, _⟩ := stepP_sym (n := stepP W H i d) rfl t1 ⟨d1, by omega⟩
        have o2 : stepP W H i d < (out.length : Int) := by omega
        have c2 : stepP W H i d < (cost.length : Int) := by omega
        by_cases t2 : rd out (stepP W H i d) ≥ 0
        · have top := I.top _ t1 t5
          have ct := g.rd _ t1
          have at_ := (I.att _ t1 t5 t2).1
          have hle := has_le out
          have w2 : wrap64 (rd out (stepP W H i d) + rd cost (stepP W H i d)) = rd out (stepP W H i d) + rd cost (stepP W H i d) := swrap_in (by omega) (by omega)
          have better : (rd out i < 0 ∨ rd out (stepP W H i d) + rd cost (stepP W H i d) < rd out i) → (∀ R, Ev (fun k => tourref5_Costs.l3 k (out.set i.toNat (rd out (stepP W H i d) + rd cost (stepP W H i d))) true i (d + 1) m p W H cost) R → Ev (fun k => tourref5_Costs.l3 k out b i d m p W H cost) R) → ∃ out' b', Mid W H cost goals out' ∧ mu (1000 * cost.length + 1) out' ≤ mu (1000 * cost.length + 1) out ∧ (b' = false → b = false ∧ out' = out ∧ ∀ e, d ≤ e → e ≤ 4 → Done W H cost out i e) ∧ (b' = true → b = true ∨ mu (1000 * cost.length + 1) out' < mu (1000 * cost.length + 1) out) ∧
              ∀ R, Ev (fun k => tourref5_Costs.l2 k out' b' m (wrap64 (p + 1)) W H cost) R → Ev (fun k => tourref5_Costs.l3 k out b i d m p W H cost) R := fun hb' hn => by
            have I2 : Mid W H cost goals (out.set i.toNat (rd out (stepP W H i d) + rd cost (stepP W H i d))) := by
              refine I.upd g i _ h0 h1 hc (by omega) (fun _ => by omega) (fun _ => by omega) (fun _ h => h) (fun _ h => .inl h) (fun h => ?_) (fun j h => (hG j h).1) (.inr ⟨d, _, d1, by omega, rfl, t1, t2, at_, Int.le_refl _⟩)
              have := I.goal i h hc
              omega
            have tp := I2.top i h0 h1
            have hle2 := has_le (out.set i.toNat (rd out (stepP W H i d) + rd cost (stepP W H i d)))
            have ho2 := I2.len
            have e2 : rd (out.set i.toNat (rd out (stepP W H i d) + rd cost (stepP W H i d))) i = rd out (stepP W H i d) + rd cost (stepP W H i d) := by rw [rd_set h0 o1 h0, if_pos rfl]
            rw [e2] at tp
            have fl := I.fall g i (rd out (stepP W H i d) + rd cost (stepP W H i d)) h0 h1 (by omega) (by omega)
            obtain ⟨out', b', I', le, f, t, ev⟩ := ih (d + 1) (by omega) (by omega) _ true I2
            refine ⟨out', b', I', by omega, fun h => ?_, fun h => .inr (by omega), fun R h => hn R (ev R h)⟩
            exact absurd (f h).1 (by simp)
          by_cases t3 : rd out i < 0
          · refine better (.inl t3) fun R h => at4 R _ (fun k => ?_) h
            rw [if_pos t1, if_pos t1, if_pos o2, if_pos t2, if_pos h0, if_pos o1, if_pos t3, if_pos c2, w2]
          · by_cases t4 : rd out (stepP W H i d) + rd cost (stepP W H i d) < rd out i
            · refine better (.inr t4) fun R h => at4 R _ (fun k => ?_) h
              rw [if_pos t1, if_pos t1, if_pos o2, if_pos t2, if_pos h0, if_pos o1, if_neg t3, if_pos c2, w2, if_pos t4]
            · refine pass (fun _ _ _ => by omega) fun R h => at4 R _ (fun k => ?_) h
              rw [if_pos t1, if_pos t1, if_pos o2, if_pos t2, if_pos h0, if_pos o1, if_neg t3, if_pos c2, w2, if_neg t4]
        · refine pass (fun _ _ h => absurd h t2) fun R h => at4 R _ (fun k => ?_) h
          rw [if_pos t1, if_pos t1, if_pos o2, if_neg t2]
      · refine pass (fun _ h => absurd h t1) fun R h => at4 R _ (fun k => ?_) h
        rw [if_neg t1]
    · rw [decide_eq_false hc] at at3
      refine ⟨out, b, I, Nat.le_refl _, fun h => ⟨h, rfl, fun e h1 h2 hc' => absurd hc' hc⟩, fun h => .inl h, fun R h => at3 R ?_⟩
      exact Ev.step (f := fun k => tourref5_Costs.l2 k out b m (wrap64 (p + 1)) W H cost) (fun k => by rw [tourref5_Costs.j4, if_neg (by simp)]) h
/-- All cells, from one on. -/
theorem cells_l (g : Grid W H cost) (hG : ∀ i ∈ goals, 0 ≤ i ∧ i < W * H) : ∀ (n p : Nat), p + n = cost.length → ∀ (out : List Int) (b : Bool), Mid W H cost goals out →
    ∃ out' b', Mid W H cost goals out' ∧ mu (1000 * cost.length + 1) out' ≤ mu (1000 * cost.length + 1) out ∧ (b' = false → b = false ∧ out' = out ∧ ∀ j, (p : Int) ≤ j → j < W * H → ∀ e, 1 ≤ e → e ≤ 4 → Done W H cost out j e) ∧ (b' = true → b = true ∨ mu (1000 * cost.length + 1) out' < mu (1000 * cost.length + 1) out) ∧
      ∀ R, Ev (fun k => tourref5_Costs.l1 k out' b' W H cost) R → Ev (fun k => tourref5_Costs.l2 k out b (cost.length : Int) (p : Int) W H cost) R := by
  have hl := g.len
  have hb := g.big
  intro n
  induction n with
  | zero =>
    intro p hp out b I
    refine ⟨out, b, I, Nat.le_refl _, fun h => ⟨h, rfl, fun j h1 h2 => by omega⟩, fun h => .inl h, fun R h => ?_⟩
    exact Ev.step (f := fun k => tourref5_Costs.l1 k out b W H cost) (fun k => by rw [tourref5_Costs.l2, if_neg (by omega)]) h
  | succ n ih =>
    intro p hp out b I
    obtain ⟨o1, b1, I1, le1, f1, t1, ev1⟩ := dirs_l g hG (p : Int) (by omega) (by omega) (cost.length : Int) (p : Int) 4 1 (by omega) (by omega) out b I
    obtain ⟨o2, b2, I2, le2, f2, t2, ev2⟩ := ih (p + 1) (by omega) o1 b1 I1
    have hw : wrap64 ((p : Int) + 1) = ((p + 1 : Nat) : Int) := by rw [swrap_in (by omega) (by omega)]; rfl
    rw [hw] at ev1
    refine ⟨o2, b2, I2, by omega, fun h => ?_, fun h => ?_, fun R h => ?_⟩
    · obtain ⟨a1, a2, a3⟩ := f2 h
      obtain ⟨c1, c2, c3⟩ := f1 a1
      refine ⟨c1, a2.trans c2, fun j j1 j2 e e1 e2 => ?_⟩
      by_cases q : j = (p : Int)
      · subst q; exact c3 e e1 e2
      · rw [c2] at a3
        exact a3 j (by omega) j2 e e1 e2
    · rcases t2 h with h | h
      · rcases t1 h with h | h
        · exact .inl h
        · exact .inr (by omega)
      · exact .inr (by omega)
    · exact Ev.step (f := fun k => tourref5_Costs.l3 k out b (p : Int) 1 (cost.length : Int) (p : Int) W H cost) (fun k => by rw [tourref5_Costs.l2, if_pos (by omega)]) (ev1 R (ev2 R h))
/-- Again and again. -/
theorem again_l (g : Grid W H cost) (hG : ∀ i ∈ goals, 0 ≤ i ∧ i < W * H) : ∀ (n : Nat) (out : List Int), mu (1000 * cost.length + 1) out = n → Mid W H cost goals out → ∃ r, Ev (fun k => tourref5_Costs.l1 k out true W H cost) r ∧ Sol W H cost goals r := by
  intro n
  induction n using Nat.strongRecOn with
  | ind n ih =>
    intro out hn I
    obtain ⟨o1, b1, I1, le1, f1, t1, ev1⟩ := cells_l g hG cost.length 0 (by omega) out false I
    have ho := I.len
    have top : ∀ R, Ev (fun k => tourref5_Costs.l1 k o1 b1 W H cost) R → Ev (fun k => tourref5_Costs.l1 k out true W H cost) R := fun R h => by
      refine Ev.step (f := fun k => tourref5_Costs.l2 k out false (cost.length : Int) ((0 : Nat) : Int) W H cost) (fun k => ?_) (ev1 R h)
      rw [tourref5_Costs.l1, if_pos rfl, ho]; rfl
    cases hb1 : b1 with
    | true =>
      have lt := (t1 hb1).resolve_left (by simp)
      obtain ⟨r, hr, s⟩ := ih _ (by omega) o1 rfl I1
      exact ⟨r, top r (by rw [hb1]; exact hr), s⟩
    | false =>
      obtain ⟨_, e, D⟩ := f1 hb1
      refine ⟨out, top out ?_, I.sol g fun i d h0 h1 d1 d2 => D i (by omega) h1 d d1 d2⟩
      rw [hb1, e]
      exact Ev.step (f := fun _ => some out) (fun k => by rw [tourref5_Costs.l1, if_neg (by simp)]) (Ev.now _)
theorem goals_l (g : Grid W H cost) (hG : ∀ i ∈ goals, 0 ≤ i ∧ i < W * H) (hn : goals.length ≤ 4611686018427387904) : ∀ (n i : Nat), i + n = goals.length → ∀ out : List Int, Mid W H cost (goals.take i) out → ∃ r, Ev (fun k => tourref5_Costs.l0 k out goals (goals.length : Int) (i : Int) W H cost) r ∧ Sol W H cost goals r := by
  have hl := g.len
  have hb := g.big
  intro n
  induction n with
  | zero =>
    intro i hi out I
    rw [List.take_of_length_le (by omega)] at I
    obtain ⟨r, hr, s⟩ := again_l g hG _ out rfl I
    exact ⟨r, Ev.step (f := fun k => tourref5_Costs.l1 k out true W H cost) (fun k => by rw [tourref5_Costs.l0, if_neg (by omega)]) hr, s⟩
  | succ n ih =>
    intro i hi out I
    have i1 : (i : Int) < (goals.length : Int) := by omega
    have i0 : (0 : Int) ≤ (i : Int) := by omega
    obtain ⟨c, hc⟩ : ∃ c, rd goals (i : Int) = c := ⟨_, rfl⟩
    have ce : goals[i]'(by omega) = c := by rw [← hc, rd_nat _ _ (by omega)]
    have cm : c ∈ goals := by rw [← ce]; exact List.getElem_mem _
    obtain ⟨c0, c1⟩ := hG c cm
    have tk : goals.take (i + 1) = goals.take i ++ [c] := by rw [List.take_succ_eq_append_getElem (by omega), ce]
    have ho := I.len
    have cl : c < (cost.length : Int) := by omega
    have ol : c < (out.length : Int) := by omega
    have hw : wrap64 ((i : Int) + 1) = ((i + 1 : Nat) : Int) := by rw [swrap_in (by omega) (by omega)]; rfl
    have wi : ∀ j, j ∈ goals.take i ++ [c] → 0 ≤ j := fun j h => by
      rw [← tk] at h
      exact (hG j (List.mem_of_mem_take h)).1
    by_cases hp : rd cost c > 0
    · have I2 : Mid W H cost (goals.take (i + 1)) (out.set c.toNat 0) := by
        rw [tk]
        exact I.upd g c 0 c0 c1 hp (by omega) (fun _ => by omega) (fun h => h) (fun j h => List.mem_append.2 (.inl h)) (fun j h => (List.mem_append.1 h).imp_right fun h => List.mem_singleton.1 h) (fun _ => rfl) wi (.inl ⟨List.mem_append.2 (.inr (List.mem_singleton.2 rfl)), rfl⟩)
      obtain ⟨r, hr, s⟩ := ih (i + 1) (by omega) _ I2
      refine ⟨r, Ev.step (fun k => ?_) hr, s⟩
      rw [tourref5_Costs.l0, if_pos i1, if_pos i0, if_pos i1, hc, if_pos c0, if_pos cl, if_pos hp, if_pos ol, hw]
    · have I2 : Mid W H cost (goals.take (i + 1)) out := by
        rw [tk]
        refine ⟨I.len, I.low, I.top, fun j h h2 => ?_, fun j a b e => ?_⟩
        · rcases List.mem_append.1 h with h | h
          · exact I.goal j h h2
          · obtain rfl := List.mem_singleton.1 h
            exact absurd h2 hp
        · obtain ⟨p, q⟩ := I.att j a b e
          exact ⟨p, q.imp_left fun h => ⟨List.mem_append.2 (.inl h.1), h.2⟩⟩
      obtain ⟨r, hr, s⟩ := ih (i + 1) (by omega) _ I2
      refine ⟨r, Ev.step (fun k => ?_) hr, s⟩
      rw [tourref5_Costs.l0, if_pos i1, if_pos i0, if_pos i1, hc, if_pos c0, if_pos cl, if_neg hp, hw]
theorem costs_ev (g : Grid W H cost) (hG : ∀ i ∈ goals, 0 ≤ i ∧ i < W * H) (hn : goals.length ≤ 4611686018427387904) : ∃ r, Ev (fun k => tourref5_Costs.f k W H cost goals) r ∧ Sol W H cost goals r := by
  have hb := g.big
  obtain ⟨r, hr, s⟩ := goals_l g hG hn goals.length 0 (by omega) _ (Mid.start g)
  refine ⟨r, Ev.bind (g := fun _ => slices_Repeat_int_int.f (([(-1)] : List Int)) (cost.length : Int)) (a := List.replicate cost.length (-1)) ⟨0, fun k _ => ?_⟩ hr, s⟩
  unfold slices_Repeat_int_int.f
  rw [if_pos ⟨rfl, by omega, by omega⟩, Int.toNat_natCast]; rfl
end
end Go.Proofs.Ytmpfboilodlfnaa.FlowCostsFlowMade
