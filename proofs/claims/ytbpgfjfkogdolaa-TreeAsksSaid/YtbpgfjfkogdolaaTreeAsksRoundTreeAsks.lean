/- A round of TreeAsks, in plain words; the asked function as Tick wants it. Under no condition but what stands at each. -/
import Derived.Test.YtbpgfjfkogdolaaTreeAsksMemTreeAsks
namespace Go.Proofs.Ytbpgfjfkogdolaa.TreeAsksRoundTreeAsks
open Go Go.RowKit Go.Proofs.YtbpgfjfkogdolaaW.PrintWords Go.Proofs.YtbpgfjfkogdolaaW.PrintLast Go.Proofs.YtbpgfjfkogdolaaW.PrintMore Go.Proofs.Ytbpgfjfkogdolaa.PTreeAsks Go.Proofs.Ytbpgfjfkogdolaa.Fnv Go.Proofs.Ytbpgfjfkogdolaa.TreePlainTreeAsks Go.Proofs.Ytbpgfjfkogdolaa.TreeMemTreeAsks Go.Proofs.Ytbpgfjfkogdolaa.TreeEvTreeAsks Go.Proofs.Ytbpgfjfkogdolaa.TreeTTreeAsks Go.Proofs.Ytbpgfjfkogdolaa.TreeRightTreeAsks Go.Proofs.Ytbpgfjfkogdolaa.TreeTopTreeAsks Go.Proofs.Ytbpgfjfkogdolaa.TreeAnswersTreeAsks Go.Proofs.Ytbpgfjfkogdolaa.TreeAsksLawTreeAsks Go.Proofs.Ytbpgfjfkogdolaa.TreeNamesTreeAsks Go.Proofs.Ytbpgfjfkogdolaa.TreeStepsTreeAsks Go.Proofs.Ytbpgfjfkogdolaa.TreeNamesMemTreeAsks Go.Proofs.Ytbpgfjfkogdolaa.TreeAsksMemTreeAsks
set_option linter.unusedVariables false
set_option linter.unusedSimpArgs false
theorem round_asks (an0 : ByteArray → Int) (p : ByteArray → Bool) (d : Nat) (n : Nd) (hw : Well d n) (hs : szD d n ≤ 200) (hn : Named p d n) (m : List Int) (hm : m = [] ∨ Fit d n m) :
    ∃ (k : Nat) (r : Int) (m2 : List Int) (a : Int), topF (askF an0 p) k n m (0, true) = some (r, m2, 0, (a, true)) ∧ 0 ≤ a ∧ a ≤ szD d n ∧ m2.length = szD d n ∧ 0 ≤ r ∧ r ≤ 2 ∧ (r ≠ 2 → m2 = zs (szD d n)) ∧ Fit d n m2 := by
  have hg := Well.good d n hw
  obtain ⟨μ, hμ, hor⟩ : ∃ μ, Fit d n μ ∧ (m = μ ∨ m = [] ∧ μ = zs (szD d n)) := by
    rcases hm with h | h
    · exact ⟨zs (szD d n), Fit.zeros d n hg, .inr ⟨h, rfl⟩⟩
    · exact ⟨m, h, .inl rfl⟩
  obtain ⟨k, hk⟩ := top_ev (askF an0 p) d n hw hs m μ hμ hor (0, true)
  have hk := hk k (Nat.le_refl _)
  have h1 := T_res (askF an0 p) d n hg μ (0, true)
  have h2 := T_keeps an0 p d n hg hn μ (0, true)
  have h3 := T_zero (askF an0 p) d n hw μ (0, true) hμ
  have h4 := T_fit (askF an0 p) d n hg μ (0, true) hμ
  obtain ⟨⟨r, m2, a, o⟩, hz⟩ : ∃ z, T (askF an0 p) d n μ (0, true) = z := ⟨_, rfl⟩
  rw [hz] at hk h1 h2 h3 h4
  have ho : o = true := h2.2.2 rfl
  subst ho
  have h21 : (0 : Int) ≤ a := h2.1
  have h22 : a ≤ 0 + (szD d n : Nat) := h2.2.1
  have h1' : r = 0 ∨ r = 1 ∨ r = 2 := h1
  exact ⟨k, r, m2, a, hk, h21, by omega, Fit.len d n m2 h4, by omega, by omega, h3, h4⟩
theorem max_zs (n : Nat) : Go.Lib.maxOf (zs n) = 0 := by
  have : ∀ (j : Nat) (x : Int), x = 0 → (zs j).foldl max x = 0 := by
    intro j
    induction j with
    | zero => intro x hx; exact hx
    | succ j ih => intro x hx; exact ih _ (by rw [hx]; rfl)
  unfold Go.Lib.maxOf
  refine this n _ ?_
  cases n <;> rfl
theorem asks_a {W0 : World} {g11 g12 g8 g4 g10 : Nat} {AZ : Option Addr} {cZ : Nat} {Z : List ByteArray} {A2 : Option Addr} {c2 : Nat} {l2 : List Int} {k : Int} (hL : Laid W0 g11 g8 g4 g10 AZ cZ Z A2 c2 l2 k) (h12 : g11 < g12) (hlt : g12 < W0.heap.size) :
    Asks W0 (fun j => j < g11) (InvA W0 g11 g12) (.func (.func 27) #[] #[.pointer (some ⟨g11, 0, none⟩), .pointer (some ⟨g12, 0, none⟩), .pointer (some ⟨g8, 0, none⟩), .pointer (some ⟨g4, 0, none⟩), .pointer (some ⟨g10, 0, none⟩)]) (anA l2 k Z) where
  stab := fun h hb => ⟨h.bel.trans (hb.mono (by omega)), (hb.block _ (by omega)).trans h.b11, (hb.block _ hlt).trans h.b12⟩
  tree := fun h j hj _ => h.bel.block j hj
  ask := ⟨_, _, Try.f27, rfl, Try.func27, by kernel_rfl, rfl, fun w s x hI hs => (ask_call hL h12 s x hI).mono fun e w' he => ⟨he.1, he.2.1, he.2.2.1, fun j h1 h2 => he.2.2.2 j (by omega) h2⟩⟩
end Go.Proofs.Ytbpgfjfkogdolaa.TreeAsksRoundTreeAsks
