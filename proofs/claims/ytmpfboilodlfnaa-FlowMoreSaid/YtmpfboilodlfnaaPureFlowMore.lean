/- What the printed law FlowMore computes is true, whatever the lists and the numbers. Under no condition. -/
import Derived.Test.YtmpfboilodlfnaaFlowWithinFlowMore
namespace Go.Proofs.Ytmpfboilodlfnaa.Pure
open Go Go.RowKit Go.Proofs.YtmpfboilodlfnaaW.PrintWords Go.Proofs.YtmpfboilodlfnaaW.PrintLast Go.Proofs.YtmpfboilodlfnaaW.PrintMore Go.Proofs.Ytmpfboilodlfnaa.PFlowMore Go.Proofs.Ytmpfboilodlfnaa.FlowSol Go.Proofs.Ytmpfboilodlfnaa.SrcFlowMore Go.Proofs.Ytmpfboilodlfnaa.FlowComFlowMore Go.Proofs.Ytmpfboilodlfnaa.FlowMadeFlowMore Go.Proofs.Ytmpfboilodlfnaa.FlowWithinFlowMore
set_option linter.unusedVariables false
theorem more_l (a b c : List Int) (n : Nat) (hn : n ≤ 4096) (ha : a.length = n) (hb : b.length = n) (hc : c.length = n) (h1 : ∀ i : Int, 0 ≤ i → i < n → 0 ≤ rd a i → 0 ≤ rd b i ∧ rd b i ≤ rd a i) (h2 : ∀ i : Int, 0 ≤ i → i < n → 0 ≤ rd c i → 0 ≤ rd a i ∧ rd a i ≤ rd c i) :
    ∀ d i : Nat, i + d = n → Ev (fun k => tourkeep5_FlowMore.l0 k a b c (n : Int) (i : Int)) true := by
  intro d
  induction d with
  | zero => intro i hi; exact Ev.step (f := fun _ => some true) (fun k => by rw [tourkeep5_FlowMore.l0, if_neg (by omega)]) (Ev.now _)
  | succ d ih =>
    intro i hi
    have e1 := h1 (i : Int) (by omega) (by omega)
    have e2 := h2 (i : Int) (by omega) (by omega)
    have i0 : (0 : Int) ≤ (i : Int) := by omega
    have i1 : (i : Int) < (n : Int) := by omega
    have ia : (i : Int) < (a.length : Int) := by omega
    have ib : (i : Int) < (b.length : Int) := by omega
    have ic : (i : Int) < (c.length : Int) := by omega
    have last : ∀ k, (if (i : Int) < (c.length : Int) then (if rd c (i : Int) ≥ 0 then (if rd a (i : Int) < 0 then (none : Option Bool) else (if rd a (i : Int) > rd c (i : Int) then none else tourkeep5_FlowMore.l0 k a b c (n : Int) (wrap64 ((i : Int) + 1)))) else tourkeep5_FlowMore.l0 k a b c (n : Int) (wrap64 ((i : Int) + 1))) else none) = tourkeep5_FlowMore.l0 k a b c (n : Int) ((i + 1 : Nat) : Int) := fun k => by
      rw [if_pos ic, swrap_in (by omega) (by omega)]
      by_cases h : rd c (i : Int) ≥ 0
      · have e := e2 h
        rw [if_pos h, if_neg (by omega), if_neg (by omega)]; rfl
      · rw [if_neg h]; rfl
    refine Ev.step (f := fun k => tourkeep5_FlowMore.l0 k a b c (n : Int) ((i + 1 : Nat) : Int)) (fun k => ?_) (ih (i + 1) (by omega))
    rw [tourkeep5_FlowMore.l0, if_pos i1, if_pos i0, if_pos ia]
    by_cases h : rd a (i : Int) ≥ 0
    · have e := e1 h
      rw [if_pos h, if_pos ib, if_neg (by omega), if_neg (by omega)]
      exact last k
    · rw [if_neg h]
      exact last k
theorem FlowMore : tourkeep5_FlowMore.Pure := by
  intro l0 l1 a2 a3 h1 h2 h3 h4 h5 h6 h7 h8
  obtain ⟨W, H, cost, hg, g⟩ := grid_ev l0 (by omega)
  have hl := g.len
  have hb := g.big
  obtain ⟨R, hR, hR1, hR2⟩ := within_ev l1 (cost.length : Int) (by omega)
  obtain ⟨m, hm, m0, m1⟩ := below_ok a2 (cost.length : Int) (by omega)
  obtain ⟨t, ht, t0, t1⟩ := below_ok a3 (cost.length : Int) (by omega)
  have hRW : ∀ i ∈ R, 0 ≤ i ∧ i < W * H := fun i hi => by have := hR2 i hi; omega
  have g2 : Grid W H (cost.set t.toNat 0) := ⟨g.w1, g.w2, g.h1, g.h2, by rw [List.length_set]; exact hl, fun x hx => by
    rcases List.mem_or_eq_of_mem_set hx with h | h
    · exact g.c x h
    · omega⟩
  obtain ⟨fa, hfa, sa⟩ := field_ev g (goals := R) hRW (by omega)
  obtain ⟨fb, hfb, sb⟩ := field_ev g (goals := R ++ [m]) (fun i hi => by
    rcases List.mem_append.1 hi with h | h
    · exact hRW i h
    · obtain rfl := List.mem_singleton.1 h; omega) (by simp; omega)
  obtain ⟨fc, hfc, sc⟩ := field_ev g2 (goals := R) hRW (by omega)
  have la := sa.len
  have lb := sb.len
  have lc := sc.len
  rw [List.length_set] at lc
  have hcost : ∀ i, 0 < rd (cost.set t.toNat 0) i → rd cost i = rd (cost.set t.toNat 0) i := fun i hi => by
    by_cases h0 : 0 ≤ i
    · rw [rd_set t0 t1 h0] at hi ⊢
      by_cases e : t = i
      · rw [if_pos e] at hi; omega
      · rw [if_neg e]
    · have e : ∀ l : List Int, rd l i = rd l 0 := fun l => by unfold rd; rw [show i.toNat = (0 : Int).toNat by omega]
      rw [e (cost.set t.toNat 0)] at hi
      rw [e cost, e (cost.set t.toNat 0)]
      rw [rd_set t0 t1 (by omega)] at hi ⊢
      by_cases e2 : t = 0
      · rw [if_pos e2] at hi; omega
      · rw [if_neg e2]
  refine Ev.rounds ?_
  unfold tourkeep5_FlowMore.f
  refine Ev.bind flows_ev ?_
  simp only [if_true]
  refine Ev.bind hg (Ev.bind hR (Ev.bind hfa ?_))
  have hcl : slices_Clone_int_int.f R = some R := by unfold slices_Clone_int_int.f; rw [if_pos (by omega)]
  simp only [hcl, hm, Option.bind_some, if_pos (show R.length < 17592186044416 by omega)]
  refine Ev.bind hfb ?_
  simp only [ht, Option.bind_some, if_pos t0, if_pos t1]
  refine Ev.bind hfc ?_
  simp only [if_true, la, lb, lc, bne_self_eq_false]
  refine Ev.step (f := fun k => tourkeep5_FlowMore.l0 k fa fb fc (cost.length : Int) ((0 : Nat) : Int)) (fun k => ?_) (more_l fa fb fc cost.length (by omega) la lb lc (fun i i0 i1 h => ?_) (fun i i0 i1 h => ?_) cost.length 0 (by omega))
  · rw [tourkeep5_FlowMore.j0, if_neg (by simp), la]; rfl
  · exact sa.le sb (fun _ _ => rfl) (fun i hi => List.mem_append_left _ hi) i i0 (by omega) h
  · exact sc.le sa hcost (fun i hi => hi) i i0 (by omega) h
end Go.Proofs.Ytmpfboilodlfnaa.Pure
