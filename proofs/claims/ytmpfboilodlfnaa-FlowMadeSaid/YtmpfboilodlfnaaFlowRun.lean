/- Dijkstra's rounds as a plain function: it ends, and what it leaves is what the least costs of ways are. Under no condition but what stands at each. -/
import Derived.Test.YtmpfboilodlfnaaFlowSol
import Derived.Lib.SliceRun
namespace Go.Proofs.Ytmpfboilodlfnaa.FlowRun
open Go.RowKit Go.Proofs.YtmpfboilodlfnaaW.PrintWords Go.Proofs.Ytmpfboilodlfnaa.FlowHeap Go.Proofs.Ytmpfboilodlfnaa.FlowSol
set_option linter.unusedVariables false
def pushes (W H : Int) (cost out : List Int) (x : Far) : Nat → Int → List Far → List Far
  | 0, _, h => h
  | k + 1, d, h => pushes W H cost out x k (d + 1) (if 0 ≤ stepP W H x.2 d ∧ 0 < rd cost (stepP W H x.2 d) ∧ rd out (stepP W H x.2 d) < 0 then pushF h (rd out x.2 + rd cost x.2, stepP W H x.2 d) else h)
def dijk (W H : Int) (cost : List Int) : Nat → List Int → List Far → Option (List Int)
  | 0, _, _ => none
  | k + 1, out, h => if h.length = 0 then some out else if 0 ≤ rd out (at_ h 0).2 then dijk W H cost k out (popF h) else dijk W H cost k (out.set (at_ h 0).2.toNat (at_ h 0).1) (pushes W H cost (out.set (at_ h 0).2.toNat (at_ h 0).1) (at_ h 0) 4 1 (popF h))
def starts (cost : List Int) : List Int → List Far → List Far
  | [], h => h
  | c :: l, h => starts cost l (if 0 < rd cost c then pushF h (0, c) else h)
def fieldP (W H : Int) (cost goals : List Int) : Option (List Int) := dijk W H cost (goals.length + 5 * cost.length + 1) (List.replicate cost.length (-1)) (starts cost goals [])
section
variable {W H : Int} {cost goals : List Int} {G : Nat}
theorem pushes_inv (g : Grid W H cost) (x : Far) (out : List Int) (c0 : 0 ≤ x.2) (c1 : x.2 < W * H) : ∀ (k : Nat) (d : Int) (h : List Far), 1 ≤ d → d + k = 5 → Inv W H cost goals G out h x.2 d → Inv W H cost goals G out (pushes W H cost out x k d h) x.2 5 ∧ (pushes W H cost out x k d h).length ≤ h.length + k
  | 0, d, h, _, hd, I => by
    obtain rfl : d = 5 := by simpa using hd
    exact ⟨I, Nat.le_refl _⟩
  | k + 1, d, h, h1, hd, I => by
    unfold pushes
    by_cases hp : 0 ≤ stepP W H x.2 d ∧ 0 < rd cost (stepP W H x.2 d) ∧ rd out (stepP W H x.2 d) < 0
    · rw [if_pos hp]
      have := pushes_inv g x out c0 c1 k (d + 1) _ (by omega) (by omega) (I.push g c0 c1 h1 (by omega) rfl hp.1 hp.2.1 hp.2.2)
      rw [pushF_length] at this
      exact ⟨this.1, by omega⟩
    · rw [if_neg hp]
      have := pushes_inv g x out c0 c1 k (d + 1) h (by omega) (by omega) (I.pass g c0 h1 (by omega) rfl (by
        by_cases h1 : 0 ≤ stepP W H x.2 d
        · by_cases h2 : 0 < rd cost (stepP W H x.2 d)
          · exact .inr (.inr (Int.not_lt.1 fun h3 => hp ⟨h1, h2, h3⟩))
          · exact .inr (.inl (Int.not_lt.1 h2))
        · exact .inl (by omega)))
      exact ⟨this.1, by omega⟩
theorem dijk_ends (g : Grid W H cost) (hG : ∀ i, i ∈ goals → 0 ≤ i ∧ i < W * H) : ∀ (k : Nat) (out : List Int) (h : List Far), Inv W H cost goals G out h (-1) 5 → 5 * unset out + h.length < k → ∃ r, dijk W H cost k out h = some r ∧ Sol W H cost goals r
  | 0, _, _, _, hk => by omega
  | k + 1, out, h, I, hk => by
    unfold dijk
    by_cases h0 : h.length = 0
    · rw [if_pos h0]
      obtain rfl := List.length_eq_zero_iff.1 h0
      exact ⟨out, rfl, I.done⟩
    · rw [if_neg h0]
      have hl := popF_length h
      by_cases hs : 0 ≤ rd out (at_ h 0).2
      · rw [if_pos hs]
        exact dijk_ends g hG k out (popF h) (I.skip (by omega) hs) (by omega)
      · rw [if_neg hs]
        obtain ⟨I1, hm⟩ := I.take g hG (by omega) (by omega)
        have hc := I.cell _ (pop_tells h (by omega) I.heap).2.1
        obtain ⟨I2, hp⟩ := pushes_inv g (at_ h 0) _ hc.1 hc.2.1 4 1 _ (by omega) (by omega) I1
        exact dijk_ends g hG k _ _ (I2.all (by omega) (by omega)) (by omega)
theorem starts_inv (g : Grid W H cost) : ∀ (l : List Int) (h : List Far) (goals : List Int) (G : Nat), (∀ i ∈ l, 0 ≤ i ∧ i < W * H) → Inv W H cost goals G (List.replicate cost.length (-1)) h (-1) 5 → Inv W H cost (goals ++ l) (G + l.length) (List.replicate cost.length (-1)) (starts cost l h) (-1) 5
  | [], h, goals, G, _, I => by simpa [starts] using I
  | c :: l, h, goals, G, hl, I => by
    unfold starts
    have hc := hl c (List.mem_cons_self ..)
    have e : goals ++ c :: l = goals ++ [c] ++ l := by simp
    have e2 : G + (c :: l).length = G + 1 + l.length := by simp; omega
    rw [e, e2]
    refine starts_inv g l _ _ _ (fun i hi => hl i (List.mem_cons_of_mem _ hi)) ?_
    by_cases hp : 0 < rd cost c
    · rw [if_pos hp]; exact I.goal_open g hc.1 hc.2 hp
    · rw [if_neg hp]; exact I.goal_shut g hp
/-- It ends, and tells the least costs. -/
theorem fieldP_ends (g : Grid W H cost) (hG : ∀ i, i ∈ goals → 0 ≤ i ∧ i < W * H) : ∃ r, fieldP W H cost goals = some r ∧ Sol W H cost goals r := by
  have I := starts_inv g goals [] [] 0 hG (Inv.start g)
  rw [List.nil_append] at I
  exact dijk_ends g hG _ _ _ I (by have := I.room; omega)
end
end Go.Proofs.Ytmpfboilodlfnaa.FlowRun
