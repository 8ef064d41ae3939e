/- Ways and walks, as the program tells them. Under the conditions that stand at each. -/
import Derived.Test.YtmpfboilodlfnaaFlowComFlowMade
import Derived.Test.YtmpfboilodlfnaaFlowPath
namespace Go.Proofs.Ytmpfboilodlfnaa.FlowWaysFlowMade
open Go Go.RowKit Go.Proofs.YtmpfboilodlfnaaW.PrintWords Go.Proofs.YtmpfboilodlfnaaW.PrintLast Go.Proofs.YtmpfboilodlfnaaW.PrintMore Go.Proofs.Ytmpfboilodlfnaa.PFlowMade Go.Proofs.Ytmpfboilodlfnaa.FlowSol Go.Proofs.Ytmpfboilodlfnaa.FlowPath Go.Proofs.Ytmpfboilodlfnaa.SrcFlowMade Go.Proofs.Ytmpfboilodlfnaa.FlowComFlowMade
set_option linter.unusedVariables false
section
variable {W H : Int} {cost goals f : List Int}
theorem ways_l1 (g : Grid W H cost) (s : Sol W H cost goals f) (i c : Int) (h0 : 0 ≤ i) (h1 : i < f.length) (out : List Int) (ho : out.length = f.length) (hz : rd out i = 0) (m p : Int) (R : List Int × Int) :
    ∀ n : Nat, ∀ d : Int, 1 ≤ d → d + n = 5 → Ev (fun k => flow_Ways.l0 k f (if dirFrom W H cost f i c n d = 0 then out else out.set i.toNat (dirFrom W H cost f i c n d)) f m (wrap64 (p + 1)) W H cost) R → Ev (fun k => flow_Ways.l1 k f out i c d f m p W H cost) R := by
  have hl := g.len
  have hb := g.big
  have hfl := s.len
  intro n
  induction n with
  | zero =>
    intro d _ hd h
    simp only [dirFrom, if_true] at h
    refine Ev.step (f := fun k => flow_Ways.j2 k f out i c d f m p false W H cost) (fun k => by rw [flow_Ways.l1, if_neg (by omega)]) ?_
    refine Ev.step (f := fun k => flow_Ways.l0 k f out f m (wrap64 (p + 1)) W H cost) (fun k => by rw [flow_Ways.j2, if_neg (by simp)]) h
  | succ n ih =>
    intro d h2 hd h
    refine Ev.step (f := fun k => flow_Ways.j2 k f out i c d f m p true W H cost) (fun k => by rw [flow_Ways.l1, if_pos (by omega), if_pos h0, if_pos (by omega), hz, beq_self_eq_true]) ?_
    refine Ev.step (f := fun k => (flow_Step.f k W H cost i d).bind fun t => if t ≥ 0 then (if 0 ≤ t then (if t < (f.length : Int) then (if (rd f t) ≥ 0 then (if t < (cost.length : Int) then (if (wrap64 ((rd f t) + (rd cost t))) = c then (if 0 ≤ i then (if i < (out.length : Int) then (flow_Ways.l1 k f (out.set (i : Int).toNat d) i c (wrap64 (d + 1)) f m p W H cost) else (none)) else (none)) else (flow_Ways.l1 k f out i c (wrap64 (d + 1)) f m p W H cost)) else (none)) else (flow_Ways.l1 k f out i c (wrap64 (d + 1)) f m p W H cost)) else (none)) else (none)) else (flow_Ways.l1 k f out i c (wrap64 (d + 1)) f m p W H cost)) (fun k => by rw [flow_Ways.j2, if_pos rfl]) ?_
    refine Ev.bind (step_ev g i d) ?_
    have hw : wrap64 (d + 1) = d + 1 := swrap_in (by omega) (by omega)
    simp only [hw]
    have pass : ¬ (0 ≤ stepP W H i d ∧ 0 ≤ rd f (stepP W H i d) ∧ rd f (stepP W H i d) + rd cost (stepP W H i d) = c) → Ev (fun k => flow_Ways.l1 k f out i c (d + 1) f m p W H cost) R := fun hno => by
      refine ih (d + 1) (by omega) (by omega) ?_
      have e : dirFrom W H cost f i c (n + 1) d = dirFrom W H cost f i c n (d + 1) := by rw [dirFrom, if_neg hno]
      rw [e] at h
      exact h
    by_cases t1 : stepP W H i d ≥ 0
    · simp only [if_pos t1]
      obtain ⟨_, _, t5, _⟩ := stepP_sym (n := stepP W H i d) rfl t1 ⟨h2, by omega⟩
      simp only [if_pos (show stepP W H i d < (f.length : Int) by omega)]
      by_cases t2 : rd f (stepP W H i d) ≥ 0
      · have top := s.top _ t1 t5
        have ct := g.rd _ t1
        simp only [if_pos t2, if_pos (show stepP W H i d < (cost.length : Int) by omega), swrap_in (x := rd f (stepP W H i d) + rd cost (stepP W H i d)) (by omega) (by omega)]
        by_cases t3 : rd f (stepP W H i d) + rd cost (stepP W H i d) = c
        · simp only [if_pos t3, if_pos h0, if_pos (show i < (out.length : Int) by omega)]
          have e : dirFrom W H cost f i c (n + 1) d = d := by rw [dirFrom, if_pos ⟨t1, t2, t3⟩]
          rw [e, if_neg (by omega)] at h
          have hs : rd (out.set i.toNat d) i = d := by rw [rd_set h0 (by omega) h0, if_pos rfl]
          by_cases h4 : d + 1 ≤ 4
          · refine Ev.step (f := fun k => flow_Ways.j2 k f (out.set i.toNat d) i c (d + 1) f m p false W H cost) (fun k => by rw [flow_Ways.l1, if_pos h4, if_pos h0, if_pos (by rw [List.length_set]; omega), hs, (by simpa using (by omega : ¬ d = 0) : (d == 0) = false)]) ?_
            exact Ev.step (f := fun k => flow_Ways.l0 k f (out.set i.toNat d) f m (wrap64 (p + 1)) W H cost) (fun k => by rw [flow_Ways.j2, if_neg (by simp)]) h
          · refine Ev.step (f := fun k => flow_Ways.j2 k f (out.set i.toNat d) i c (d + 1) f m p false W H cost) (fun k => by rw [flow_Ways.l1, if_neg h4]) ?_
            exact Ev.step (f := fun k => flow_Ways.l0 k f (out.set i.toNat d) f m (wrap64 (p + 1)) W H cost) (fun k => by rw [flow_Ways.j2, if_neg (by simp)]) h
        · simp only [if_neg t3]
          exact pass fun h => t3 h.2.2
      · simp only [if_neg t2]
        exact pass fun h => t2 h.2.1
    · simp only [if_neg t1]
      exact pass fun h => t1 h.1
theorem ways_l0 (g : Grid W H cost) (s : Sol W H cost goals f) : ∀ n i : Nat, i + n = f.length → ∀ out : List Int, out.length = f.length → (∀ j : Nat, i ≤ j → j < f.length → rd out (j : Int) = 0) →
    Ev (fun k => flow_Ways.l0 k f out f (f.length : Int) (i : Int) W H cost) (out.take i ++ (waysV W H cost f).drop i, 0) := by
  have hl := g.len
  have hb := g.big
  have hfl := s.len
  intro n
  induction n with
  | zero =>
    intro i hi out ho _
    refine Ev.step (f := fun _ => some (out, 0)) (fun k => by rw [flow_Ways.l0, if_neg (by omega)]) ?_
    rw [List.take_of_length_le (by omega), List.drop_of_length_le (by rw [waysV_length]; omega), List.append_nil]
    exact Ev.now _
  | succ n ih =>
    intro i hi out ho hz
    have hlen := waysV_length W H cost f
    have hd : (waysV W H cost f).drop i = wayV W H cost f (i : Int) :: (waysV W H cost f).drop (i + 1) := by
      rw [List.drop_eq_getElem_cons (by omega)]
      congr 1
      have := rd_waysV W H cost f (i : Int) (by omega) (by omega)
      rw [← this, rd_nat _ _ (by omega)]
    have next : ∀ x : Int, Ev (fun k => flow_Ways.l0 k f (out.set i x) f (f.length : Int) ((i + 1 : Nat) : Int) W H cost) (out.take i ++ x :: (waysV W H cost f).drop (i + 1), 0) := fun x => by
      have h := ih (i + 1) (by omega) (out.set i x) (by rw [List.length_set]; exact ho) (fun j h1 h2 => by
        have h3 := rd_set (l := out) (i := (i : Int)) (j := (j : Int)) (v := x) (by omega) (by omega) (by omega)
        rw [Int.toNat_natCast] at h3
        rw [h3, if_neg (by omega)]
        exact hz j (by omega) h2)
      have e : (out.set i x).take (i + 1) = out.take i ++ [x] := by
        rw [List.take_succ_eq_append_getElem (by rw [List.length_set]; omega), List.getElem_set_self, List.take_set_of_le (Nat.le_refl i)]
      rw [e] at h
      simpa using h
    have keep : out.set i 0 = out := by
      apply List.ext_getElem?
      intro j
      rw [List.getElem?_set]
      by_cases e : i = j
      · subst e
        rw [if_pos rfl, if_pos (by omega)]
        have := hz i (Nat.le_refl _) (by omega)
        rw [rd_nat _ _ (by omega)] at this
        rw [List.getElem?_eq_getElem (by omega), this]
      · rw [if_neg e]
    have hw : wrap64 ((i : Int) + 1) = ((i + 1 : Nat) : Int) := by rw [swrap_in (by omega) (by omega)]; rfl
    rw [hd]
    by_cases h1 : rd f (i : Int) < 1
    · have hv : wayV W H cost f (i : Int) = 0 := by unfold wayV; rw [if_pos h1]
      have hn := next 0
      rw [keep] at hn
      rw [hv]
      refine Ev.step (f := fun k => flow_Ways.l0 k f out f (f.length : Int) ((i + 1 : Nat) : Int) W H cost) (fun k => ?_) hn
      rw [flow_Ways.l0, if_pos (by omega), if_pos (by omega), if_pos (by omega), if_pos h1, hw]
    · refine Ev.step (f := fun k => flow_Ways.l1 k f out (i : Int) (rd f (i : Int)) 1 f (f.length : Int) (i : Int) W H cost) (fun k => ?_) (ways_l1 g s (i : Int) _ (by omega) (by omega) out ho (hz i (Nat.le_refl _) (by omega)) _ _ _ 4 1 (by omega) (by omega) ?_)
      · rw [flow_Ways.l0, if_pos (by omega), if_pos (by omega), if_pos (by omega), if_neg h1]
      · have hv : wayV W H cost f (i : Int) = dirFrom W H cost f (i : Int) (rd f (i : Int)) 4 1 := by unfold wayV; rw [if_neg h1]
        rw [← hv, hw]
        by_cases hz0 : wayV W H cost f (i : Int) = 0
        · simp only [if_pos hz0]
          have hn := next 0
          rw [keep] at hn
          rw [hz0]
          exact hn
        · simp only [if_neg hz0, Int.toNat_natCast]
          exact next _
theorem ways_ev (g : Grid W H cost) (s : Sol W H cost goals f) (hf : Ev (fun k => flow_Field.f k W H cost goals) (f, 0)) : Ev (fun k => flow_Ways.f k W H cost goals) (waysV W H cost f, 0) := by
  have hb := g.big
  have hfl := s.len
  unfold flow_Ways.f
  refine Ev.bind hf ?_
  simp only [if_true, Int.toNat_natCast]
  have h := ways_l0 g s f.length 0 (by omega) (List.replicate f.length 0) (by simp) (fun j _ h => by rw [rd_nat _ _ (by simpa using h)]; simp)
  simp only [List.take_zero, List.nil_append, List.drop_zero] at h
  refine Ev.congr (fun k => ?_) h
  rw [if_pos (by omega), if_pos (by omega)]
  rfl
theorem walk_l (g : Grid W H cost) (s : Sol W H cost goals f) : ∀ (n : Nat) (c : Int) (acc : List Int), 0 ≤ c → c < W * H → 0 ≤ rd f c → rd f c ≤ n → acc.length + n ≤ 10000000 →
    Ev (fun k => flow_Walk.l0 k c (waysV W H cost f) acc W H cost) (acc ++ pathT W H cost f n c, 0) := by
  have hl := g.len
  have hfl := s.len
  have hwl := waysV_length W H cost f
  have done : ∀ (c : Int) (acc : List Int), 0 ≤ c → c < W * H → rd f c < 1 → Ev (fun k => flow_Walk.l0 k c (waysV W H cost f) acc W H cost) (acc, 0) := fun c acc h0 h1 h2 => by
    refine Ev.step (f := fun _ => some (acc, 0)) (fun k => ?_) (Ev.now _)
    rw [flow_Walk.l0, if_pos h0, if_pos (by omega), rd_waysV _ _ _ _ _ h0 (by omega), if_pos (by unfold wayV; rw [if_pos h2])]
  intro n
  induction n with
  | zero =>
    intro c acc h0 h1 h2 h3 _
    rw [pathT, List.append_nil]
    exact done c acc h0 h1 (by omega)
  | succ n ih =>
    intro c acc h0 h1 h2 h3 h4
    unfold pathT
    by_cases h : rd f c < 1
    · rw [if_pos h, List.append_nil]; exact done c acc h0 h1 h
    · rw [if_neg h]
      obtain ⟨a1, a2, a3, a4, a5, a6, a7⟩ := way_on s c h0 h1 (by omega)
      have I := ih _ (acc ++ [stepP W H c (wayV W H cost f c)]) a3 a4 a5 (by omega) (by simp; omega)
      rw [List.append_assoc, List.singleton_append] at I
      refine Ev.step (f := fun k => (flow_Step.f k W H cost c (wayV W H cost f c)).bind fun t => if acc.length < 17592186044416 then (flow_Walk.l0 k t (waysV W H cost f) (acc ++ [t]) W H cost) else none) (fun k => ?_) (Ev.bind (step_ev g c _) ?_)
      · rw [flow_Walk.l0, if_pos h0, if_pos (by omega), rd_waysV _ _ _ _ _ h0 (by omega), if_neg (by omega)]
      · simp only [if_pos (show acc.length < 17592186044416 by omega)]
        exact I
/-- A walk from a cell that has a way. -/
theorem walk_ev (g : Grid W H cost) (s : Sol W H cost goals f) (hf : Ev (fun k => flow_Field.f k W H cost goals) (f, 0)) (c : Int) (h0 : 0 ≤ c) (h1 : c < W * H) (h2 : 0 ≤ rd f c) : Ev (fun k => flow_Walk.f k W H cost goals c) (c :: pathT W H cost f (rd f c).toNat c, 0) := by
  have hl := g.len
  have hb := g.big
  have hfl := s.len
  have hwl := waysV_length W H cost f
  have top := s.top c h0 h1
  unfold flow_Walk.f
  refine Ev.bind (ways_ev g s hf) ?_
  simp only [if_true, if_neg (show ¬ c < 0 by omega), decide_eq_false (show ¬ c ≥ ((waysV W H cost f).length : Int) by omega)]
  refine Ev.step (f := fun k => (flow_Field.f k W H cost goals).bind fun bt166 => (if 0 ≤ c then (if c < (bt166.1.length : Int) then (if (rd bt166.1 c) < 0 then (some (([] : List Int), 4)) else (flow_Walk.l0 k c (waysV W H cost f) (([c] : List Int)) W H cost)) else (none)) else (none))) (fun k => by rw [flow_Walk.j0, if_neg (by simp)]) (Ev.bind hf ?_)
  simp only [if_pos h0, if_pos (show c < (f.length : Int) by omega), if_neg (show ¬ rd f c < 0 by omega)]
  have := walk_l g s (rd f c).toNat c [c] h0 h1 h2 (by omega) (by simp; omega)
  simpa using this
theorem walk_none (g : Grid W H cost) (s : Sol W H cost goals f) (hf : Ev (fun k => flow_Field.f k W H cost goals) (f, 0)) (c : Int) (h0 : 0 ≤ c) (h1 : c < W * H) (h2 : rd f c < 0) : Ev (fun k => flow_Walk.f k W H cost goals c) ([], 4) := by
  have hl := g.len
  have hfl := s.len
  have hwl := waysV_length W H cost f
  unfold flow_Walk.f
  refine Ev.bind (ways_ev g s hf) ?_
  simp only [if_true, if_neg (show ¬ c < 0 by omega), decide_eq_false (show ¬ c ≥ ((waysV W H cost f).length : Int) by omega)]
  refine Ev.step (f := fun k => (flow_Field.f k W H cost goals).bind fun bt166 => (if 0 ≤ c then (if c < (bt166.1.length : Int) then (if (rd bt166.1 c) < 0 then (some (([] : List Int), 4)) else (flow_Walk.l0 k c (waysV W H cost f) (([c] : List Int)) W H cost)) else (none)) else (none))) (fun k => by rw [flow_Walk.j0, if_neg (by simp)]) (Ev.bind hf ?_)
  simp only [if_pos h0, if_pos (show c < (f.length : Int) by omega), if_pos h2]
  exact Ev.now _
theorem walk_out (g : Grid W H cost) (s : Sol W H cost goals f) (hf : Ev (fun k => flow_Field.f k W H cost goals) (f, 0)) (c : Int) (h : c < 0 ∨ W * H ≤ c) : Ev (fun k => flow_Walk.f k W H cost goals c) ([], 1) := by
  have hl := g.len
  have hfl := s.len
  have hwl := waysV_length W H cost f
  unfold flow_Walk.f
  refine Ev.bind (ways_ev g s hf) ?_
  have e : ∀ k, flow_Walk.j0 (k + 1) goals c (waysV W H cost f) true W H cost = some ([], 1) := fun k => by rw [flow_Walk.j0, if_pos rfl]
  by_cases h0 : c < 0
  · simp only [if_true, if_pos h0]
    exact Ev.step (f := fun _ => some ([], 1)) e (Ev.now _)
  · simp only [if_true, if_neg h0, decide_eq_true (show c ≥ ((waysV W H cost f).length : Int) by omega)]
    exact Ev.step (f := fun _ => some ([], 1)) e (Ev.now _)
end
end Go.Proofs.Ytmpfboilodlfnaa.FlowWaysFlowMade
