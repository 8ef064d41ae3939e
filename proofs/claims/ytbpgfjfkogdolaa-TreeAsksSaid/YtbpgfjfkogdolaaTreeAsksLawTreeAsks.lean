/- How often a tree's walk asks, for which names, and what it remembers when it does not run. Under no condition but what stands at each. -/
import Derived.Test.YtbpgfjfkogdolaaTreeRightTreeAsks
namespace Go.Proofs.Ytbpgfjfkogdolaa.TreeAsksLawTreeAsks
open Go Go.RowKit Go.Proofs.YtbpgfjfkogdolaaW.PrintWords Go.Proofs.YtbpgfjfkogdolaaW.PrintLast Go.Proofs.YtbpgfjfkogdolaaW.PrintMore Go.Proofs.Ytbpgfjfkogdolaa.PTreeAsks Go.Proofs.Ytbpgfjfkogdolaa.Fnv Go.Proofs.Ytbpgfjfkogdolaa.TreePlainTreeAsks Go.Proofs.Ytbpgfjfkogdolaa.TreeEvTreeAsks Go.Proofs.Ytbpgfjfkogdolaa.TreeTTreeAsks Go.Proofs.Ytbpgfjfkogdolaa.TreeRightTreeAsks Go.Proofs.Ytbpgfjfkogdolaa.TreeTopTreeAsks
set_option linter.unusedVariables false
set_option linter.unusedSimpArgs false
section
variable (an0 : ByteArray → Int) (p : ByteArray → Bool)
/-- What is asked is counted, and whether each name is right. -/
def askF : Int × Bool → ByteArray → Int × (Int × Bool) := fun s x => (an0 x, (s.1 + 1, s.2 && p x))
def Named : Nat → Nd → Prop
  | 0, n => (n.f0 = 1 ∨ n.f0 = 2) → p n.f1 = true
  | d + 1, n => ((n.f0 = 1 ∨ n.f0 = 2) → p n.f1 = true) ∧ ∀ x ∈ n.f3, Named d x
def Keeps (m : Nat) (s s' : Int × Bool) : Prop := s.1 ≤ s'.1 ∧ s'.1 ≤ s.1 + m ∧ (s.2 = true → s'.2 = true)
theorem Keeps.refl (m : Nat) (s : Int × Bool) : Keeps m s s := ⟨Int.le_refl _, by omega, id⟩
theorem Keeps.trans {a b c : Nat} {s t u : Int × Bool} (h : Keeps a s t) (k : Keeps b t u) (hc : a + b ≤ c) : Keeps c s u := ⟨Int.le_trans h.1 k.1, by have := h.2.1; have := k.2.1; omega, fun e => k.2.2 (h.2.2 e)⟩
theorem Keeps.more {a c : Nat} {s t : Int × Bool} (h : Keeps a s t) (hc : a ≤ c) : Keeps c s t := ⟨h.1, by have := h.2.1; omega, h.2.2⟩
theorem kidsL_keeps {T : Nd → List Int → Int × Bool → Int × List Int × (Int × Bool)} {S : Nd → Nat} {kind first : Int} {total : Nat} : ∀ (l : List Nd) (i : Int) (ν : List Int) (nb : Nat) (s : Int × Bool), (∀ x ∈ l, ∀ μ s, Keeps (S x) s (T x μ s).2.2) → Keeps (l.map S).sum s (kidsL T S kind first total i l ν nb s).2.2
  | [], i, ν, nb, s, h => Keeps.refl _ _
  | x :: l, i, ν, nb, s, h => by
    have h1 := h x (by simp) (ν.take (S x)) s
    have h2 : ∀ i ν nb s, Keeps (l.map S).sum s (kidsL T S kind first total i l ν nb s).2.2 := fun i ν nb s => kidsL_keeps l i ν nb s fun y hy => h y (by simp [hy])
    simp only [List.map_cons, List.sum_cons]
    rw [kidsL]
    split
    · split
      · exact h1.more (by omega)
      · split
        · exact h1.trans (h2 _ _ _ _) (Nat.le_refl _)
        · exact h1.more (by omega)
    · exact (h2 _ _ _ _).more (by omega)
theorem T_keeps : ∀ (d : Nat) (n : Nd), Good2 d n → Named p d n → ∀ (μ : List Int) (s : Int × Bool), Keeps (szD d n) s (T (askF an0 p) d n μ s).2.2
  | 0, n, hg, hn, μ, s => by
    unfold T nodeT
    split
    · rename_i h
      exact ⟨by show s.1 ≤ s.1 + 1; omega, by show s.1 + 1 ≤ s.1 + 1; omega, fun e => by show (s.2 && p n.f1) = true; rw [e, hn h]; rfl⟩
    · rw [if_neg hg.2.1, if_neg hg.2.2, hg.1]
      exact Keeps.refl _ _
  | d + 1, n, hg, hn, μ, s => by
    have ih : ∀ x ∈ n.f3, ∀ μ s, Keeps (szD d x) s (T (askF an0 p) d x μ s).2.2 := fun x hx μ s => T_keeps d x (hg.2.2 x hx) (hn.2 x hx) μ s
    have hsz : szD (d + 1) n = 1 + (n.f3.map (szD d)).sum := rfl
    have h1 : (n.f0 = 5 ∨ n.f0 = 6) → ∀ μ s, Keeps (szD (d + 1) n) s (T (askF an0 p) d (rdN n.f3 0) μ s).2.2 := fun h5 μ s => by
      have hl := hg.1 h5
      match hf : n.f3, hl with
      | [x], _ =>
        have := ih x (by simp [hf]) μ s
        refine this.more ?_
        rw [hsz, hf]
        simp
    unfold T nodeT
    split
    · rename_i h
      exact ⟨by show s.1 ≤ s.1 + 1; omega, by show s.1 + 1 ≤ s.1 + _; omega, fun e => by show (s.2 && p n.f1) = true; rw [e, hn.1 h]; rfl⟩
    · split
      · rename_i h5
        exact h1 (.inl h5) _ _
      · split
        · rename_i h6
          split
          · exact h1 (.inr h6) _ _
          · split <;> exact h1 (.inr h6) _ _
        · exact (kidsL_keeps n.f3 _ _ _ _ ih).more (by omega)
end
section
variable {σ : Type} (an : σ → ByteArray → Int × σ)
theorem kidsL_zero {T : Nd → List Int → σ → Int × List Int × σ} {S : Nd → Nat} {kind first : Int} {total : Nat} : ∀ (l : List Nd) (i : Int) (ν : List Int) (nb : Nat) (s : σ), (kidsL T S kind first total i l ν nb s).1 ≠ 2 → (kidsL T S kind first total i l ν nb s).2.1 = zs total
  | [], i, ν, nb, s, h => rfl
  | x :: l, i, ν, nb, s, h => by
    rw [kidsL] at h ⊢
    by_cases c1 : i ≥ first
    · rw [if_pos c1] at h ⊢
      by_cases c2 : (T x (ν.take (S x)) s).1 = 2
      · rw [if_pos c2] at h; exact absurd rfl h
      · rw [if_neg c2] at h ⊢
        by_cases c3 : (T x (ν.take (S x)) s).1 = onV kind
        · rw [if_pos c3] at h ⊢; exact kidsL_zero l _ _ _ _ h
        · rw [if_neg c3]
    · rw [if_neg c1] at h ⊢; exact kidsL_zero l _ _ _ _ h
/-- A walk that does not run remembers nothing. -/
theorem T_zero : ∀ (d : Nat) (n : Nd), Well d n → ∀ (μ : List Int) (s : σ), Fit d n μ → (T an d n μ s).1 ≠ 2 → (T an d n μ s).2.1 = zs (szD d n)
  | 0, n, hw, μ, s, hf, h => by
    obtain ⟨a, e, ha, hb⟩ := hf
    have hg := Well.good 0 n hw
    unfold T nodeT at h ⊢
    by_cases c1 : n.f0 = 1 ∨ n.f0 = 2
    · rw [if_pos c1]
      have : most n = 0 := by unfold most; rw [if_neg (by omega), if_neg (by omega)]
      rw [e, show a = 0 from by omega]
      rfl
    · rw [if_neg c1, if_neg hg.2.1, if_neg hg.2.2] at h ⊢
      rw [kidsL_zero _ _ _ _ _ h, e]
      rfl
  | d + 1, n, hw, μ, s, hf, h => by
    have hlen := Fit.len (d + 1) n μ hf
    obtain ⟨a, ν, e, ha, hb, hν⟩ := hf
    have hg := Well.good (d + 1) n hw
    have hsz : szD (d + 1) n = 1 + (n.f3.map (szD d)).sum := rfl
    unfold T nodeT at h ⊢
    by_cases c1 : n.f0 = 1 ∨ n.f0 = 2
    · rw [if_pos c1]
      have h0 : most n = 0 := by unfold most; rw [if_neg (by omega), if_neg (by omega)]
      have h3 : n.f3 = [] := (hw.1.2.2.1 c1).1
      rw [h3] at hν
      rw [hsz, h3, e, show ν = [] from hν, show a = 0 from by omega]
      rfl
    · rw [if_neg c1] at h ⊢
      have kid : (n.f0 = 5 ∨ n.f0 = 6) → ∃ x, n.f3 = [x] ∧ Well d x ∧ Fit d x ν ∧ rdN n.f3 0 = x := fun h5 => by
        have hl := hg.1 h5
        match hf3 : n.f3, hl with
        | [x], _ =>
          rw [hf3] at hν
          obtain ⟨α, β, e1, _, hα, hβ⟩ := hν
          rw [show β = [] from hβ, List.append_nil] at e1
          exact ⟨x, rfl, hw.2 x (by simp [hf3]), by rw [e1]; exact hα, rfl⟩
      by_cases c5 : n.f0 = 5
      · rw [if_pos c5] at h ⊢
        obtain ⟨x, hx3, hwx, hfx, hrd⟩ := kid (.inl c5)
        have h0 : most n = 0 := by unfold most; rw [if_neg (by omega), if_neg (by omega)]
        rw [hrd, e] at h ⊢
        have hne : (T an d x ν s).1 ≠ 2 := fun e2 => h (show (if (T an d x ν s).1 = 2 then (2 : Int) else 1 - (T an d x ν s).1) = 2 from if_pos e2)
        have := T_zero d x hwx ν s hfx hne
        simp only [List.tail_cons, List.headD_cons]
        rw [this, hsz, hx3, show a = 0 from by omega]
        simp [zs, List.replicate_succ, Nat.add_comm 1]
      · rw [if_neg c5] at h ⊢
        by_cases c6 : n.f0 = 6
        · rw [if_pos c6] at h ⊢
          split at h
          · exact absurd rfl h
          · rename_i h2
            rw [if_neg h2]
            split at h
            · exact absurd rfl h
            · rename_i h3
              rw [if_neg h3, hlen]
        · rw [if_neg c6] at h ⊢
          rw [kidsL_zero _ _ _ _ _ h, hlen]
end
end Go.Proofs.Ytbpgfjfkogdolaa.TreeAsksLawTreeAsks
