/- What the printed law FlowWalks computes is true, whatever the lists and the number. Under no condition. -/
import Derived.Test.YtmpfboilodlfnaaFlowWithinFlowWalks
import Derived.Test.YtmpfboilodlfnaaFlowWaysFlowWalks
import Derived.Test.YtmpfboilodlfnaaFlowHasFlowWalks
namespace Go.Proofs.Ytmpfboilodlfnaa.Pure
open Go Go.RowKit Go.Proofs.YtmpfboilodlfnaaW.PrintWords Go.Proofs.YtmpfboilodlfnaaW.PrintLast Go.Proofs.YtmpfboilodlfnaaW.PrintMore Go.Proofs.Ytmpfboilodlfnaa.PFlowWalks Go.Proofs.Ytmpfboilodlfnaa.FlowSol Go.Proofs.Ytmpfboilodlfnaa.FlowPath Go.Proofs.Ytmpfboilodlfnaa.SrcFlowWalks Go.Proofs.Ytmpfboilodlfnaa.FlowComFlowWalks Go.Proofs.Ytmpfboilodlfnaa.FlowMadeFlowWalks Go.Proofs.Ytmpfboilodlfnaa.FlowWithinFlowWalks Go.Proofs.Ytmpfboilodlfnaa.FlowWaysFlowWalks Go.Proofs.Ytmpfboilodlfnaa.FlowHasFlowWalks
set_option linter.unusedVariables false
theorem step_wrap (i : Nat) (w : List Int) (hwl : w.length ≤ 100000000) (h : i < w.length) : wrap64 ((i : Int) + 1) = ((i + 1 : Nat) : Int) := by rw [swrap_in (by omega) (by omega)]; rfl
theorem take_short (w : List Int) (i n : Nat) (hwl : w.length ≤ 100000000) (hi : i + (n + 1) = w.length) : (w.take i).length ≤ 1000000000 := by have := List.length_take_le i w; omega
section
variable {W H : Int} {cost goals f w : List Int}
/-- What the sum of a walk is before its i-th cell. -/
def sumTo (f w : List Int) (i : Nat) : Int := if i = 0 then 0 else rd f (rd w 0) - rd f (rd w ((i - 1 : Nat) : Int))
theorem sum_zero (f w : List Int) : sumTo f w 0 = 0 := rfl
theorem sum_on (f w : List Int) (i : Nat) (hi : i ≠ 0) : sumTo f w i = rd f (rd w 0) - rd f (rd w ((i - 1 : Nat) : Int)) := by unfold sumTo; rw [if_neg hi]
theorem walks_l (g : Grid W H cost) (s : Sol W H cost goals f) (hw : FlowPath.Way W H cost goals f w) (hw0 : 0 < w.length) (hwl : w.length ≤ 100000000) (x0 : Int) (hx0 : rd w 0 = x0) : ∀ n i : Nat, i + n = w.length →
    Ev (fun k => tourkeep5_FlowWalks.l0 k x0 f w (sumTo f w i) w (w.length : Int) (i : Int) W H cost) true := by
  have hl := g.len
  have hb := g.big
  have hfl := s.len
  have c0 : 0 ≤ x0 ∧ x0 < W * H ∧ 0 ≤ rd f x0 := by rw [← hx0]; exact hw.cell 0 hw0
  have t0 := s.top _ c0.1 c0.2.1
  intro n
  induction n with
  | zero =>
    intro i hi
    refine Ev.step (f := fun _ => some true) (fun k => ?_) (Ev.now _)
    rw [tourkeep5_FlowWalks.l0, if_neg (by omega), if_pos c0.1, if_pos (by omega), sum_on f w i (by omega), (hw.last (i - 1) (by omega)).1, hx0]
    simp
  | succ n ih =>
    intro i hi
    have hh := has_ev (w.take i) (take_short w i n hwl hi) (rd w (i : Int))
    have fr := hw.fresh i (by omega)
    have ci := hw.cell i (by omega)
    obtain ⟨y, hy⟩ : ∃ y, rd w (i : Int) = y := ⟨_, rfl⟩
    rw [hy] at hh fr ci
    have cc := g.rd y ci.1
    have ti := s.top _ ci.1 ci.2.1
    have i1 : (i : Int) < (w.length : Int) := by omega
    have i2 : (0 : Int) ≤ (i : Int) := by omega
    have i3 : (i : Int) ≤ (w.length : Int) := by omega
    have y1 : y < (f.length : Int) := by omega
    have y2 : y < (cost.length : Int) := by omega
    refine Ev.step (f := fun k => (slices_Contains_int_int.f k (w.take i) y).bind fun t211 => (tourkeep5_FlowWalks.j3 k x0 f w (sumTo f w i) (i : Int) y w (w.length : Int) (i : Int) t211 W H cost)) (fun k => ?_) (Ev.bind hh ?_)
    · rw [tourkeep5_FlowWalks.l0, if_pos i1, if_pos i2, if_pos i1, hy, if_neg (Int.not_lt.2 ci.1), if_neg (Int.not_le.2 y1), if_pos i3, Int.toNat_natCast]
    · rw [decide_eq_false fr]
      refine Ev.step (f := fun k => tourkeep5_FlowWalks.l0 k x0 f w (sumTo f w (i + 1)) w (w.length : Int) ((i + 1 : Nat) : Int) W H cost) (fun k => ?_) (ih (i + 1) (by omega))
      rw [tourkeep5_FlowWalks.j3, if_neg (show ¬ (false = true) by simp), show wrap64 ((i : Int) + 1) = ((i + 1 : Nat) : Int) from step_wrap i w hwl (by omega)]
      have e : sumTo f w (i + 1) = rd f x0 - rd f y := by rw [sum_on f w (i + 1) (by omega), show i + 1 - 1 = i by omega, hy, hx0]
      rw [e]
      by_cases hz : i = 0
      · subst hz
        have e0 : y = x0 := by rw [← hy, ← hx0]; rfl
        rw [if_neg (show ¬ (((0 : Nat) : Int) > 0) by simp), sum_zero, e0, Int.sub_self]
      · have h1 := hw.on (i - 1) (by omega)
        rw [show i - 1 + 1 = i by omega, hy] at h1
        have c1 := hw.cell (i - 1) (by omega)
        obtain ⟨z, hz1⟩ : ∃ z, rd w ((i - 1 : Nat) : Int) = z := ⟨_, rfl⟩
        rw [hz1] at h1 c1
        have t1 := s.top _ c1.1 c1.2.1
        rw [if_pos (show (i : Int) > 0 by omega), if_pos ci.1, if_pos y2, sum_on f w i hz, hx0, hz1]
        have e2 : wrap64 (rd f x0 - rd f z + rd cost y) = rd f x0 - rd f y := by rw [swrap_in (by omega) (by omega)]; omega
        rw [e2]
end
theorem FlowWalks : tourkeep5_FlowWalks.Pure := by
  intro l0 l1 a2 h1 h2 h3 h4 h5 h6 h7
  obtain ⟨W, H, cost, hg, g⟩ := grid_ev l0 (by omega)
  have hl := g.len
  have hb := g.big
  obtain ⟨R, hR, hR1, hR2⟩ := within_ev l1 (cost.length : Int) (by omega)
  obtain ⟨c, hc, c0, c1⟩ := below_ok a2 (cost.length : Int) (by omega)
  obtain ⟨f, hf, s⟩ := field_ev g (goals := R) (fun i hi => by have := hR2 i hi; omega) (by omega)
  have hfl := s.len
  refine Ev.rounds ?_
  unfold tourkeep5_FlowWalks.f
  refine Ev.bind flows_ev ?_
  simp only [if_true]
  refine Ev.bind hg (Ev.bind hR ?_)
  simp only [hc, Option.bind_some]
  refine Ev.bind hf ?_
  simp only [if_true, hfl, bne_self_eq_false]
  have hc1 : c < W * H := by omega
  by_cases hn : rd f c < 0
  · refine Ev.bind (walk_none g s hf c c0 hc1 hn) ?_
    refine Ev.step (f := fun _ => some true) (fun k => ?_) (Ev.now _)
    rw [tourkeep5_FlowWalks.j0, if_neg (by simp), if_neg (by simp), if_pos rfl, if_pos c0, if_pos (by omega), if_pos hn]
    rfl
  · have hw := path_way s (rd f c).toNat c c0 hc1 (by omega) (by omega)
    have hpl : ∀ (n : Nat) (c : Int), (pathT W H cost f n c).length ≤ n := by
      intro n
      induction n with
      | zero => intro c; exact Nat.le_refl _
      | succ n ih => intro c; unfold pathT; split; simp; simp only [List.length_cons]; have := ih (stepP W H c (wayV W H cost f c)); omega
    have top := s.top c c0 hc1
    refine Ev.bind (walk_ev g s hf c c0 hc1 (by omega)) ?_
    have hw0 : 0 < (c :: pathT W H cost f (rd f c).toNat c).length := by simp
    have hwl : (c :: pathT W H cost f (rd f c).toNat c).length ≤ 100000000 := by
      have := hpl (rd f c).toNat c
      simp only [List.length_cons]
      omega
    have hr0 : rd (c :: pathT W H cost f (rd f c).toNat c) 0 = c := rfl
    obtain ⟨w, hwd⟩ : ∃ w, c :: pathT W H cost f (rd f c).toNat c = w := ⟨_, rfl⟩
    rw [hwd] at hw hw0 hwl hr0 ⊢
    clear hwd
    have hlast := hw.last (w.length - 1) (by omega)
    have e1 : wrap64 ((w.length : Int) - 1) = ((w.length - 1 : Nat) : Int) := by rw [swrap_in (by omega) (by omega)]; omega
    refine Ev.step (f := fun k => (slices_Contains_int_int.f k R (rd w ((w.length - 1 : Nat) : Int))).bind fun t204 => (tourkeep5_FlowWalks.j1 k c f w (!t204) W H cost)) (fun k => ?_) (Ev.bind (has_ev R (by omega) _) ?_)
    · rw [tourkeep5_FlowWalks.j0, if_neg (show ¬ (false = true) by simp), if_pos (show (0 : Int) = 0 from rfl), if_neg (show ¬ ((w.length : Int) = 0) by omega), if_pos (show (0 : Int) < (w.length : Int) by omega), if_pos hr0, e1, if_pos (show (0 : Int) ≤ ((w.length - 1 : Nat) : Int) by omega), if_pos (show ((w.length - 1 : Nat) : Int) < (w.length : Int) by omega)]
    · rw [decide_eq_true hlast.2]
      refine Ev.step (f := fun k => tourkeep5_FlowWalks.l0 k c f w (sumTo f w 0) w (w.length : Int) ((0 : Nat) : Int) W H cost) (fun k => ?_) (walks_l g s hw hw0 hwl c hr0 w.length 0 (by omega))
      rw [tourkeep5_FlowWalks.j1, if_neg (by simp)]
      rfl
end Go.Proofs.Ytmpfboilodlfnaa.Pure
