/- The ways by the first directions: plain. Under no condition but what stands at each. -/
import Derived.Test.YtmpfboilodlfnaaFlowSol
namespace Go.Proofs.Ytmpfboilodlfnaa.FlowPath
open Go.RowKit Go.Proofs.YtmpfboilodlfnaaW.PrintWords Go.Proofs.Ytmpfboilodlfnaa.FlowHeap Go.Proofs.Ytmpfboilodlfnaa.FlowSol
set_option linter.unusedVariables false
/-- The first direction from d on, of n, that leads on at cost c. -/
def dirFrom (W H : Int) (cost f : List Int) (i c : Int) : Nat → Int → Int
  | 0, _ => 0
  | n + 1, d => if 0 ≤ stepP W H i d ∧ 0 ≤ rd f (stepP W H i d) ∧ rd f (stepP W H i d) + rd cost (stepP W H i d) = c then d else dirFrom W H cost f i c n (d + 1)
def wayV (W H : Int) (cost f : List Int) (i : Int) : Int := if rd f i < 1 then 0 else dirFrom W H cost f i (rd f i) 4 1
def waysV (W H : Int) (cost f : List Int) : List Int := (List.range f.length).map fun i : Nat => wayV W H cost f (i : Int)
def pathT (W H : Int) (cost f : List Int) : Nat → Int → List Int
  | 0, _ => []
  | n + 1, c => if rd f c < 1 then [] else stepP W H c (wayV W H cost f c) :: pathT W H cost f n (stepP W H c (wayV W H cost f c))
theorem dirFrom_range (W H : Int) (cost f : List Int) (i c : Int) : ∀ (n : Nat) (d : Int), dirFrom W H cost f i c n d = 0 ∨ (d ≤ dirFrom W H cost f i c n d ∧ dirFrom W H cost f i c n d < d + n ∧ 0 ≤ stepP W H i (dirFrom W H cost f i c n d) ∧ 0 ≤ rd f (stepP W H i (dirFrom W H cost f i c n d)) ∧ rd f (stepP W H i (dirFrom W H cost f i c n d)) + rd cost (stepP W H i (dirFrom W H cost f i c n d)) = c)
  | 0, _ => .inl rfl
  | n + 1, d => by
    unfold dirFrom
    by_cases h : 0 ≤ stepP W H i d ∧ 0 ≤ rd f (stepP W H i d) ∧ rd f (stepP W H i d) + rd cost (stepP W H i d) = c
    · rw [if_pos h]; exact .inr ⟨Int.le_refl _, by omega, h⟩
    · rw [if_neg h]
      rcases dirFrom_range W H cost f i c n (d + 1) with h | ⟨h1, h2, h3⟩
      · exact .inl h
      · exact .inr ⟨by omega, by omega, h3⟩
theorem dirFrom_some (W H : Int) (cost f : List Int) (i c e : Int) (he : 0 ≤ stepP W H i e ∧ 0 ≤ rd f (stepP W H i e) ∧ rd f (stepP W H i e) + rd cost (stepP W H i e) = c) : ∀ (n : Nat) (d : Int), 1 ≤ d → d ≤ e → e < d + n → dirFrom W H cost f i c n d ≠ 0
  | 0, _, _, h1, h2 => by omega
  | n + 1, d, h0, h1, h2 => by
    unfold dirFrom
    by_cases h : 0 ≤ stepP W H i d ∧ 0 ≤ rd f (stepP W H i d) ∧ rd f (stepP W H i d) + rd cost (stepP W H i d) = c
    · rw [if_pos h]; omega
    · rw [if_neg h]
      refine dirFrom_some W H cost f i c e he n (d + 1) (by omega) ?_ (by omega)
      by_cases h3 : d = e
      · subst h3; exact absurd he h
      · omega
theorem waysV_length (W H : Int) (cost f : List Int) : (waysV W H cost f).length = f.length := by simp [waysV]
theorem rd_waysV (W H : Int) (cost f : List Int) (i : Int) (h0 : 0 ≤ i) (h1 : i < f.length) : rd (waysV W H cost f) i = wayV W H cost f i := by
  unfold waysV rd
  rw [List.getD_eq_getElem?_getD, List.getElem?_map, List.getElem?_range (by omega)]
  simp [Int.toNat_of_nonneg h0]
section
variable {W H : Int} {cost goals f : List Int}
/-- Where the cost is more than none, the first direction leads on, to a cell of less cost. -/
theorem way_on (s : Sol W H cost goals f) (c : Int) (h0 : 0 ≤ c) (h1 : c < W * H) (h2 : 1 ≤ rd f c) : 1 ≤ wayV W H cost f c ∧ wayV W H cost f c ≤ 4 ∧ 0 ≤ stepP W H c (wayV W H cost f c) ∧ stepP W H c (wayV W H cost f c) < W * H ∧ 0 ≤ rd f (stepP W H c (wayV W H cost f c)) ∧ rd f c = rd f (stepP W H c (wayV W H cost f c)) + rd cost (stepP W H c (wayV W H cost f c)) ∧ 0 < rd cost (stepP W H c (wayV W H cost f c)) := by
  obtain ⟨_, ⟨_, h⟩ | ⟨d, n, d1, d2, hs, n0, fn, cn, e⟩⟩ := s.att c h0 h1 (by omega)
  · omega
  · have hne := dirFrom_some W H cost f c (rd f c) d ⟨by omega, by rw [hs]; exact fn, by rw [hs]; omega⟩ 4 1 (by omega) d1 (by omega)
    have hw : wayV W H cost f c = dirFrom W H cost f c (rd f c) 4 1 := by unfold wayV; rw [if_neg (by omega)]
    rw [← hw] at hne
    rcases dirFrom_range W H cost f c (rd f c) 4 1 with h | ⟨a1, a2, a3, a4, a5⟩
    · rw [hw] at hne; exact absurd h hne
    · rw [← hw] at a1 a2 a3 a4 a5
      obtain ⟨_, _, q, _⟩ := stepP_sym (n := stepP W H c (wayV W H cost f c)) rfl a3 ⟨a1, by omega⟩
      exact ⟨a1, by omega, a3, q, a4, by omega, (s.att _ a3 q a4).1⟩
/-- What a way is. -/
structure Way (W H : Int) (cost goals f : List Int) (w : List Int) : Prop where
  cell : ∀ i : Nat, i < w.length → 0 ≤ rd w i ∧ rd w i < W * H ∧ 0 ≤ rd f (rd w i)
  on : ∀ i : Nat, i + 1 < w.length → rd f (rd w i) = rd f (rd w ((i + 1 : Nat) : Int)) + rd cost (rd w ((i + 1 : Nat) : Int)) ∧ 0 < rd cost (rd w ((i + 1 : Nat) : Int))
  last : ∀ i : Nat, i + 1 = w.length → rd f (rd w i) = 0 ∧ rd w i ∈ goals
theorem rd_cons (x : Int) (l : List Int) (i : Nat) : rd (x :: l) ((i + 1 : Nat) : Int) = rd l (i : Int) := by
  unfold rd; rw [Int.toNat_natCast, Int.toNat_natCast]; rfl
theorem rd_zero (x : Int) (l : List Int) : rd (x :: l) ((0 : Nat) : Int) = x := rfl
theorem path_way (s : Sol W H cost goals f) : ∀ (n : Nat) (c : Int), 0 ≤ c → c < W * H → 0 ≤ rd f c → rd f c ≤ n → Way W H cost goals f (c :: pathT W H cost f n c) := by
  have done : ∀ c : Int, 0 ≤ c → c < W * H → rd f c = 0 → Way W H cost goals f [c] := fun c h0 h1 h2 => by
    refine ⟨fun i hi => ?_, fun i hi => ?_, fun i hi => ?_⟩
    · obtain rfl : i = 0 := by simpa using hi
      exact ⟨h0, h1, by rw [rd_zero]; omega⟩
    · simp at hi
    · obtain rfl : i = 0 := by simpa using hi
      refine ⟨h2, ?_⟩
      obtain ⟨_, ⟨h, _⟩ | ⟨d, n, d1, d2, hs, n0, fn, cn, e⟩⟩ := s.att c h0 h1 (by omega)
      · exact h
      · omega
  intro n
  induction n with
  | zero => intro c h0 h1 h2 h3; exact done c h0 h1 (by omega)
  | succ n ih =>
    intro c h0 h1 h2 h3
    unfold pathT
    by_cases h : rd f c < 1
    · rw [if_pos h]; exact done c h0 h1 (by omega)
    · rw [if_neg h]
      obtain ⟨_, _, a3, a4, a5, a6, a7⟩ := way_on s c h0 h1 (by omega)
      have I := ih _ a3 a4 a5 (by omega)
      generalize stepP W H c (wayV W H cost f c) = t at *
      refine ⟨fun i hi => ?_, fun i hi => ?_, fun i hi => ?_⟩
      · cases i with
        | zero => exact ⟨h0, h1, h2⟩
        | succ i => rw [rd_cons]; exact I.cell i (by simpa using hi)
      · cases i with
        | zero => rw [rd_cons]; exact ⟨a6, a7⟩
        | succ i => rw [rd_cons, rd_cons]; exact I.on i (by simpa using hi)
      · cases i with
        | zero => simp at hi
        | succ i => rw [rd_cons]; exact I.last i (by simpa using hi)
/-- Along a way the costs decrease. -/
theorem Way.down {w : List Int} (h : Way W H cost goals f w) : ∀ (d i : Nat), i + d + 1 < w.length → rd f (rd w ((i + d + 1 : Nat) : Int)) < rd f (rd w (i : Int))
  | 0, i, hi => by have := h.on i hi; simp only [Nat.add_zero]; omega
  | d + 1, i, hi => by
    have h1 := h.down d i (by omega)
    have h2 := h.on (i + d + 1) (by omega)
    rw [show i + (d + 1) + 1 = i + d + 1 + 1 by omega]
    omega
theorem Way.fresh {w : List Int} (h : Way W H cost goals f w) (i : Nat) (hi : i < w.length) : rd w (i : Int) ∉ w.take i := by
  intro hm
  obtain ⟨j, hj, e⟩ := List.mem_iff_getElem.1 hm
  rw [List.length_take] at hj
  rw [List.getElem_take] at e
  have e2 : rd w (j : Int) = w[j] := by unfold rd; rw [Int.toNat_natCast, List.getD_eq_getElem?_getD, List.getElem?_eq_getElem (by omega)]; rfl
  have := h.down (i - j - 1) j (by omega)
  rw [show j + (i - j - 1) + 1 = i by omega, ← e, ← e2] at this
  omega
end
end Go.Proofs.Ytmpfboilodlfnaa.FlowPath
