/- What the printed law FlowTells computes is true, whatever the grid, the goals, the cell and the way. Under the conditions that stand at each. -/
import Derived.Test.YtmpfboilodlfnaaFlowBeyondFlowMade
import Derived.Test.YtmpfboilodlfnaaFlowWaysFlowMade
namespace Go.Proofs.Ytmpfboilodlfnaa.TellsLawFlowMade
open Go Go.RowKit Go.Proofs.YtmpfboilodlfnaaW.PrintWords Go.Proofs.YtmpfboilodlfnaaW.PrintLast Go.Proofs.YtmpfboilodlfnaaW.PrintMore Go.Proofs.Ytmpfboilodlfnaa.PFlowMade Go.Proofs.Ytmpfboilodlfnaa.FlowSol Go.Proofs.Ytmpfboilodlfnaa.FlowPath Go.Proofs.Ytmpfboilodlfnaa.SrcFlowMade Go.Proofs.Ytmpfboilodlfnaa.FlowComFlowMade Go.Proofs.Ytmpfboilodlfnaa.FlowBeyondFlowMade Go.Proofs.Ytmpfboilodlfnaa.FlowAnyFlowMade Go.Proofs.Ytmpfboilodlfnaa.FlowCostsFlowMade Go.Proofs.Ytmpfboilodlfnaa.FlowWaysFlowMade
set_option linter.unusedVariables false
theorem equal_l (f : List Int) (hf : f.length ≤ 4611686018427387904) : ∀ n i : Nat, i + n = f.length → Ev (fun k => slices_Equal_int_int.l0 k f f (f.length : Int) (i : Int)) true := by
  intro n
  induction n with
  | zero => intro i hi; exact Ev.step (f := fun _ => some true) (fun k => by rw [slices_Equal_int_int.l0, if_neg (by omega)]) (Ev.now _)
  | succ n ih =>
    intro i hi
    have i1 : (i : Int) < (f.length : Int) := by omega
    have i0 : (0 : Int) ≤ (i : Int) := by omega
    have hw : wrap64 ((i : Int) + 1) = ((i + 1 : Nat) : Int) := by rw [swrap_in (by omega) (by omega)]; rfl
    exact Ev.step (fun k => by rw [slices_Equal_int_int.l0, if_pos i1, if_pos i0, if_pos i1, if_pos i1, if_pos rfl, hw]) (ih (i + 1) (by omega))
theorem equal_ev (f : List Int) (hf : f.length ≤ 4611686018427387904) : Ev (fun k => slices_Equal_int_int.f k f f) true := by
  refine Ev.congr (fun k => ?_) (equal_l f hf f.length 0 (by omega))
  unfold slices_Equal_int_int.f
  rw [if_pos rfl]; rfl
theorem check11 : Ev (fun k => flow_Check.f k 1 1 ([1] : List Int)) 0 := check_ev ⟨by omega, by omega, by omega, by omega, rfl, fun x hx => by obtain rfl := List.mem_singleton.1 hx; omega⟩
theorem check00 : Ev (fun k => flow_Check.f k 0 0 ([] : List Int)) 2 := by
  refine Ev.step (f := fun _ => some 2) (fun k => ?_) (Ev.now _)
  unfold flow_Check.f
  rw [if_pos (by omega), flow_Check.j0, if_pos rfl]
section
variable {W H : Int} {cost goals : List Int}
/-- Where something is wrong. -/
theorem wrong (c x : Int) (hx : x ≠ 0) (hf : Ev (fun k => flow_Field.f k W H cost goals) ([], x)) : Ev (fun k => tourlaw5_FlowTells.j3 k goals c x W H cost) true := by
  have hw : Ev (fun k => flow_Ways.f k W H cost goals) ([], x) := by
    unfold flow_Ways.f
    refine Ev.bind hf ?_
    simp only [if_neg hx]
    exact Ev.now _
  have hk : Ev (fun k => flow_Walk.f k W H cost goals c) ([], x) := by
    unfold flow_Walk.f
    refine Ev.bind hw ?_
    simp only [if_neg hx]
    exact Ev.now _
  refine Ev.step (fun k => by rw [tourlaw5_FlowTells.j3]) (Ev.bind hf (Ev.bind hw (Ev.bind hk ?_)))
  simp only [if_neg hx, if_true]
  exact ⟨0, fun _ _ => by simp [wrap64]⟩
variable {f : List Int}
/-- The ways of one cell, from the last. -/
theorem tells_l1 (g : Grid W H cost) (s : Sol W H cost goals f) (a : Int) (w : List Int) (e i p m v : Int) (l : List Int) (h0 : 0 ≤ i) (h1 : i < W * H) (R : Bool) : ∀ k : Nat, k ≤ 4 → ∀ x, x = (if rd f i > 0 then dirFrom W H cost f i (rd f i) (4 - k) ((k : Int) + 1) else 0) →
    v = (if rd f i > 0 then dirFrom W H cost f i (rd f i) 4 1 else 0) → Ev (fun q => tourlaw5_FlowTells.l0 q a (waysV W H cost f) w e f l m (wrap64 (p + 1)) W H cost) R → Ev (fun q => tourlaw5_FlowTells.l1 q a (waysV W H cost f) w e f i v x (k : Int) l m p W H cost) R := by
  have hl := g.len
  have hb := g.big
  have hfl := s.len
  intro k
  induction k with
  | zero =>
    intro _ x hx hv h
    have e : v = x := by rw [hv, hx]; rfl
    exact Ev.step (fun q => by rw [tourlaw5_FlowTells.l1, if_neg (by omega), if_pos e]) h
  | succ k ih =>
    intro hk x hx hv h
    have fl : i < (f.length : Int) := by omega
    have hw : wrap64 (((k + 1 : Nat) : Int) - 1) = (k : Int) := by rw [swrap_in (by omega) (by omega)]; omega
    obtain ⟨t, ht⟩ : ∃ t, stepP W H i ((k + 1 : Nat) : Int) = t := ⟨_, rfl⟩
    have n4 : 4 - k = (4 - (k + 1)) + 1 := by omega
    have next : ∀ y, y = (if rd f i > 0 then dirFrom W H cost f i (rd f i) (4 - k) ((k : Int) + 1) else 0) → ∀ F, (∀ q, F q = tourlaw5_FlowTells.l1 q a (waysV W H cost f) w e f i v y (k : Int) l m p W H cost) → Ev F R := fun y hy F hF => Ev.congr hF (ih (by omega) y hy hv h)
    have keep : rd f i > 0 → ¬ (0 ≤ t ∧ 0 ≤ rd f t ∧ rd f t + rd cost t = rd f i) → x = (if rd f i > 0 then dirFrom W H cost f i (rd f i) (4 - k) ((k : Int) + 1) else 0) := fun hp hno => by
      rw [hx, if_pos hp, if_pos hp, n4, dirFrom, show stepP W H i ((k : Int) + 1) = t from ht, if_neg hno]
      rfl
    refine Ev.step (fun q => by rw [tourlaw5_FlowTells.l1, if_pos (by omega)]) (Ev.bind (beyond_any W H cost i ((k + 1 : Nat) : Int)) ?_)
    rw [ht, hw]
    simp only [if_pos h0, if_pos fl]
    by_cases hp : rd f i > 0
    · simp only [if_pos hp]
      by_cases t1 : t ≥ 0
      · obtain ⟨_, _, t5, _⟩ := stepP_sym (n := t) ht t1 ⟨by omega, by omega⟩
        have tf : t < (f.length : Int) := by omega
        have tc : t < (cost.length : Int) := by omega
        simp only [if_pos t1, if_pos tf]
        by_cases t2 : rd f t ≥ 0
        · have top := s.top _ t1 t5
          have ct := g.rd _ t1
          have w2 : wrap64 (rd f t + rd cost t) = rd f t + rd cost t := swrap_in (by omega) (by omega)
          simp only [if_pos t2, if_pos tc, w2]
          by_cases t3 : rd f t + rd cost t = rd f i
          · simp only [if_pos t3]
            refine next _ ?_ _ (fun q => rfl)
            rw [if_pos hp, n4, dirFrom, show stepP W H i ((k : Int) + 1) = t from ht, if_pos ⟨t1, t2, t3⟩]
            rfl
          · simp only [if_neg t3]
            exact next _ (keep hp fun h => t3 h.2.2) _ (fun q => rfl)
        · simp only [if_neg t2]
          exact next _ (keep hp fun h => t2 h.2.1) _ (fun q => rfl)
      · simp only [if_neg t1]
        exact next _ (keep hp fun h => t1 h.1) _ (fun q => rfl)
    · simp only [if_neg hp]
      exact next _ (by rw [hx, if_neg hp, if_neg hp]) _ (fun q => rfl)
theorem tells_l0 (g : Grid W H cost) (s : Sol W H cost goals f) (a : Int) (w : List Int) (e : Int) (R : Bool) (hend : Ev (fun k => if a < 0 then (tourlaw5_FlowTells.j7 k a (waysV W H cost f) w e f true W H cost) else (tourlaw5_FlowTells.j7 k a (waysV W H cost f) w e f (decide (a ≥ (f.length : Int))) W H cost)) R) :
    ∀ n p : Nat, p + n = f.length → Ev (fun k => tourlaw5_FlowTells.l0 k a (waysV W H cost f) w e f (waysV W H cost f) ((waysV W H cost f).length : Int) (p : Int) W H cost) R := by
  have hl := g.len
  have hb := g.big
  have hfl := s.len
  have hwl := waysV_length W H cost f
  intro n
  induction n with
  | zero => intro p hp; exact Ev.step (f := fun k => if a < 0 then (tourlaw5_FlowTells.j7 k a (waysV W H cost f) w e f true W H cost) else (tourlaw5_FlowTells.j7 k a (waysV W H cost f) w e f (decide (a ≥ (f.length : Int))) W H cost)) (fun k => by rw [tourlaw5_FlowTells.l0, if_neg (by omega)]) hend
  | succ n ih =>
    intro p hp
    have p1 : (p : Int) < ((waysV W H cost f).length : Int) := by omega
    have p0 : (0 : Int) ≤ (p : Int) := by omega
    have hw : wrap64 ((p : Int) + 1) = ((p + 1 : Nat) : Int) := by rw [swrap_in (by omega) (by omega)]; rfl
    refine Ev.step (fun k => by rw [tourlaw5_FlowTells.l0, if_pos p1, if_pos p0, if_pos p1]; rfl) (tells_l1 g s a w e (p : Int) (p : Int) _ _ _ p0 (by omega) R 4 (by omega) 0 ?_ ?_ ?_)
    · have e : dirFrom W H cost f (p : Int) (rd f (p : Int)) (4 - 4) (((4 : Nat) : Int) + 1) = 0 := rfl
      rw [e]; split <;> rfl
    · rw [rd_waysV W H cost f (p : Int) p0 (by omega)]
      unfold wayV
      by_cases h : rd f (p : Int) < 1
      · rw [if_pos h, if_neg (by omega)]
      · rw [if_neg h, if_pos (by omega)]
    · rw [hw]; exact ih (p + 1) (by omega)
theorem tells_l2 (g : Grid W H cost) (s : Sol W H cost goals f) : ∀ (n : Nat) (c : Int), 0 ≤ c → c < W * H → 0 ≤ rd f c → rd f c ≤ n → Ev (fun k => tourlaw5_FlowTells.l2 k (waysV W H cost f) (c :: pathT W H cost f n c) 0 c W H cost) true := by
  have hl := g.len
  have hfl := s.len
  have hwl := waysV_length W H cost f
  have start : ∀ (c : Int) (y : List Int), 0 ≤ c → c < W * H → Ev (fun k => if (wayV W H cost f c) = 0 then (some ((y.length : Int) == 0)) else ((tourref5_Beyond.f k W H cost c (wayV W H cost f c)).bind fun t215 => (tourlaw5_FlowTells.l2 k (waysV W H cost f) y 0 t215 W H cost))) true → Ev (fun k => tourlaw5_FlowTells.l2 k (waysV W H cost f) (c :: y) 0 c W H cost) true := fun c y h0 h1 h => by
    have c1 : c < ((waysV W H cost f).length : Int) := by omega
    have e := rd_waysV W H cost f c h0 (by omega)
    refine Ev.step (f := fun k => tourlaw5_FlowTells.j9 k (waysV W H cost f) (c :: y) 0 c false W H cost) (fun k => ?_) (Ev.step (fun k => ?_) h)
    · rw [tourlaw5_FlowTells.l2, if_neg (by simp only [List.length_cons]; omega), if_pos (by simp only [List.length_cons]; omega)]
      have r0 : rd (c :: y) 0 = c := rfl
      rw [r0, bne_self_eq_false]
    · rw [tourlaw5_FlowTells.j9, if_neg (by simp), if_pos (by simp only [List.length_cons]; omega)]
      simp only [Option.bind_some]
      simp only [if_pos h0, if_pos c1, e, if_true]
      rfl
  intro n
  induction n with
  | zero =>
    intro c h0 h1 h2 h3
    refine start c _ h0 h1 ?_
    have e : wayV W H cost f c = 0 := by unfold wayV; rw [if_pos (by omega)]
    simp only [e, if_true, pathT]
    exact Ev.now _
  | succ n ih =>
    intro c h0 h1 h2 h3
    refine start c _ h0 h1 ?_
    unfold pathT
    by_cases h : rd f c < 1
    · have e : wayV W H cost f c = 0 := by unfold wayV; rw [if_pos h]
      simp only [e, if_true, if_pos h]
      exact Ev.now _
    · obtain ⟨a1, a2, a3, a4, a5, a6, a7⟩ := way_on s c h0 h1 (by omega)
      simp only [if_neg h, if_neg (show ¬ wayV W H cost f c = 0 by omega)]
      exact Ev.bind (beyond_any W H cost c _) (ih _ a3 a4 a5 (by omega))
/-- Where all is right. -/
theorem right (g : Grid W H cost) (hG : ∀ i ∈ goals, 0 ≤ i ∧ i < W * H) (hn : goals.length ≤ 1000000000) (c : Int) : Ev (fun k => tourlaw5_FlowTells.j3 k goals c 0 W H cost) true := by
  obtain ⟨f, hf, s⟩ := field_ev g hG (by omega)
  obtain ⟨f', hf', s'⟩ := costs_ev g hG (by omega)
  have hl := g.len
  have hb := g.big
  obtain rfl : f = f' := Sol.unique hl s s'
  have hfl := s.len
  have hwl := waysV_length W H cost f
  have go : ∀ w e, Ev (fun k => flow_Walk.f k W H cost goals c) (w, e) → Ev (fun k => if c < 0 then (tourlaw5_FlowTells.j7 k c (waysV W H cost f) w e f true W H cost) else (tourlaw5_FlowTells.j7 k c (waysV W H cost f) w e f (decide (c ≥ (f.length : Int))) W H cost)) true → Ev (fun k => tourlaw5_FlowTells.j3 k goals c 0 W H cost) true := fun w e hw hend => by
    refine Ev.step (fun k => by rw [tourlaw5_FlowTells.j3]) (Ev.bind hf (Ev.bind (ways_ev g s hf) (Ev.bind hw ?_)))
    simp only [if_true]
    refine Ev.bind hf' ?_
    refine Ev.bind (equal_ev f (by omega)) ?_
    simp only [if_true, hwl, bne_self_eq_false]
    have L := tells_l0 g s c w e true hend f.length 0 (by omega)
    rw [hwl] at L
    refine Ev.step (fun k => ?_) L
    rw [tourlaw5_FlowTells.j4, if_neg (by simp), hwl]
    rfl
  by_cases ho : c < 0 ∨ W * H ≤ c
  · refine go [] 1 (walk_out g s hf c ho) ?_
    have j : ∀ k, tourlaw5_FlowTells.j7 (k + 1) c (waysV W H cost f) [] 1 f true W H cost = some true := fun k => by rw [tourlaw5_FlowTells.j7, if_pos rfl, if_pos rfl]; rfl
    by_cases c0 : c < 0
    · simp only [if_pos c0]; exact Ev.step j (Ev.now _)
    · simp only [if_neg c0, decide_eq_true (show c ≥ (f.length : Int) by omega)]; exact Ev.step j (Ev.now _)
  · have c0 : 0 ≤ c := by omega
    have c1 : c < W * H := by omega
    have cf : c < (f.length : Int) := by omega
    by_cases hv : rd f c < 0
    · refine go [] 4 (walk_none g s hf c c0 c1 hv) ?_
      simp only [if_neg (show ¬ c < 0 by omega), decide_eq_false (show ¬ c ≥ (f.length : Int) by omega)]
      refine Ev.step (f := fun _ => some true) (fun k => ?_) (Ev.now _)
      rw [tourlaw5_FlowTells.j7, if_neg (by simp), if_pos c0, if_pos cf, if_pos hv, if_pos rfl]
      rfl
    · refine go _ 0 (walk_ev g s hf c c0 c1 (by omega)) ?_
      simp only [if_neg (show ¬ c < 0 by omega), decide_eq_false (show ¬ c ≥ (f.length : Int) by omega)]
      refine Ev.step (fun k => ?_) (tells_l2 g s (rd f c).toNat c c0 c1 (by omega) (by omega))
      rw [tourlaw5_FlowTells.j7, if_neg (by simp), if_pos c0, if_pos cf, if_neg hv]
end
theorem tells (W H : Int) (cost goals : List Int) (hn : goals.length ≤ 1000000000) (c d : Int) : Ev (fun k => tourlaw5_FlowTells.f k W H cost goals c d) true := by
  obtain ⟨e, he, hr, hg⟩ := check_any W H cost
  unfold tourlaw5_FlowTells.f
  refine Ev.bind check11 ?_
  simp only [if_true]
  refine Ev.bind check00 ?_
  simp only [bne_self_eq_false]
  refine Ev.step (fun k => by rw [tourlaw5_FlowTells.j0, if_neg (show ¬ (false = true) by simp)]) (Ev.bind hr (Ev.bind he ?_))
  simp only [if_true]
  refine Ev.bind (step_any W H cost c d) (Ev.bind (beyond_any W H cost c d) ?_)
  simp only [bne_self_eq_false]
  by_cases h0 : e = 0
  · subst h0
    have g := hg rfl
    have hl := g.len
    have any : ∀ b, goals.any (slices_ContainsFunc_int_int.bad cost.length) = b → Ev (fun k => tourlaw5_FlowTells.j2 k goals c 0 b W H cost) true → Ev (fun k => tourlaw5_FlowTells.j1 k goals c 0 false W H cost) true := fun b hb h => by
      refine Ev.step (fun k => ?_) h
      rw [tourlaw5_FlowTells.j1, if_neg (by simp), if_pos rfl]
      unfold slices_ContainsFunc_int_int.f
      rw [if_pos hn, hb]; rfl
    by_cases hG : ∀ i ∈ goals, 0 ≤ i ∧ i < W * H
    · refine any false ?_ (Ev.step (fun k => by rw [tourlaw5_FlowTells.j2, if_neg (by simp)]) (right g hG hn c))
      rw [List.any_eq_false]
      intro x hx
      have := hG x hx
      unfold slices_ContainsFunc_int_int.bad
      simp only [decide_eq_true_eq]
      omega
    · refine any true ?_ (Ev.step (fun k => by rw [tourlaw5_FlowTells.j2, if_pos rfl]) (wrong c 1 (by omega) (Ev.bind he ⟨0, fun k _ => ?_⟩)))
      · rw [List.any_eq_true]
        obtain ⟨x, hx⟩ := Classical.not_forall.1 hG
        obtain ⟨hm, hx⟩ := Classical.not_imp.1 hx
        refine ⟨x, hm, ?_⟩
        unfold slices_ContainsFunc_int_int.bad
        simp only [decide_eq_true_eq]
        omega
      · show flow_Field.g W H cost goals 0 = _
        unfold flow_Field.g
        rw [if_neg (by simp), if_neg hG, if_pos (by omega)]
  · refine Ev.step (fun k => by rw [tourlaw5_FlowTells.j1, if_neg (by simp), if_neg h0]) (Ev.step (fun k => by rw [tourlaw5_FlowTells.j2, if_neg (by simp)]) (wrong c e h0 (Ev.bind he ⟨0, fun k _ => ?_⟩)))
    show flow_Field.g W H cost goals e = _
    unfold flow_Field.g
    rw [if_pos h0]
end Go.Proofs.Ytmpfboilodlfnaa.TellsLawFlowMade
