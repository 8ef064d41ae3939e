/- Drawn things: what tourref5's Things computes is a short list of right things. -/
import Derived.Test.YtijochlkmkmhdaaRasterCullLess
namespace Go.Proofs.Ytijochlkmkmhdaa.ThingsCullLess
open Go.RowKit Go.Proofs.YtijochlkmkmhdaaW.PrintWords Go.Proofs.YtijochlkmkmhdaaW.PrintLast Go.Proofs.YtijochlkmkmhdaaW.PrintMore Go.Proofs.Ytijochlkmkmhdaa.PCullLess Go.Proofs.Ytijochlkmkmhdaa.RasterCullLess
set_option linter.unusedVariables false

theorem below_ok (a n : Int) (hn : 0 < n ∧ n ≤ 4611686018427387904) : ∃ b, tourref5_Below.f a n = some b ∧ 0 ≤ b ∧ b < n := by
  have h3 := Int.tmod_lt_of_pos a hn.1
  have h4 := Int.lt_tmod_of_pos a hn.1
  unfold tourref5_Below.f
  rw [if_neg (by omega)]
  by_cases c : Int.tmod a n < 0
  · rw [if_pos c, wrap_in (by omega) (by omega)]; exact ⟨_, rfl, by omega, by omega⟩
  · rw [if_neg c]; exact ⟨_, rfl, by omega, by omega⟩

theorem n_ok (l : List Int) (hl : l.length ≤ 9223372036854775807) (i n : Int) (hi : 0 ≤ i ∧ i ≤ l.length) (hn : 0 < n ∧ n ≤ 4611686018427387904) :
    ∃ b j, tourref5_Source_N.f l i n = some (b, j) ∧ (0 ≤ b ∧ b < n) ∧ 0 ≤ j ∧ j ≤ l.length := by
  unfold tourref5_Source_N.f
  by_cases h : i ≥ (l.length : Int)
  · rw [if_pos h]; exact ⟨0, i, rfl, by omega, hi⟩
  · rw [if_neg h, wrap_in (x := i + 1) (by omega) (by omega), wrap_in (x := i + 1 - 1) (by omega) (by omega), if_pos (by omega), if_pos (by omega)]
    obtain ⟨b, e, h0, h1⟩ := below_ok (rd l (i + 1 - 1)) n hn
    rw [e]
    exact ⟨b, i + 1, rfl, ⟨h0, h1⟩, by omega, by omega⟩

def okL (L : List Th) : Prop := L.length ≤ 6 ∧ ∀ t ∈ L, faultV t = 0

theorem l1_ok (l : List Int) (hl : l.length ≤ 9223372036854775807) (L : List Th) (hL : L.length ≤ 6) (m i kind layer col : Int) (hi : 0 ≤ i ∧ i ≤ 100) (hk : kind = 1 ∨ kind = 2) :
    ∀ d : Nat, ∀ (x : Int) (j : Int) (pts : List V), 0 ≤ x → kind + 1 - x = d → pts.length = x.toNat → (∀ p ∈ pts, okV p) → 0 ≤ j → j ≤ l.length →
    (∀ (j' : Int) (pts' : List V), 0 ≤ j' → j' ≤ l.length → (pts'.length : Int) = kind + 1 → (∀ p ∈ pts', okV p) → ∃ R, Ev (fun k => tourref5_Things.l0 k (L ++ [⟨kind, layer, col, pts'⟩]) m (i + 1) l j') R ∧ okL R) →
    ∃ R, Ev (fun k => tourref5_Things.l1 k L m i (kind + 1) x l j kind layer col pts) R ∧ okL R := by
  intro d
  induction d with
  | zero =>
    intro x j pts h0 hd hp hok hj0 hj1 hc
    obtain ⟨R, hR, hR2⟩ := hc j pts hj0 hj1 (by omega) hok
    refine ⟨R, Ev.step (fun k => by rw [tourref5_Things.l1, if_neg (by omega), if_pos (by omega), wrap_in (x := i + 1) (by omega) (by omega)]) hR, hR2⟩
  | succ d ih =>
    intro x j pts h0 hd hp hok hj0 hj1 hc
    obtain ⟨b1, j1, e1, hb1, q1, r1⟩ := n_ok l hl j 24 ⟨hj0, hj1⟩ (by omega)
    obtain ⟨b2, j2, e2, hb2, q2, r2⟩ := n_ok l hl j1 3 ⟨q1, r1⟩ (by omega)
    obtain ⟨b3, j3, e3, hb3, q3, r3⟩ := n_ok l hl j2 24 ⟨q2, r2⟩ (by omega)
    obtain ⟨b4, j4, e4, hb4, q4, r4⟩ := n_ok l hl j3 3 ⟨q3, r3⟩ (by omega)
    have hv : ∀ b b' : Int, 0 ≤ b ∧ b < 24 → 0 ≤ b' ∧ b' < 3 → ∃ v, wrap64 ((wrap64 ((wrap64 (b - 6)) * 65536)) + (wrap64 (Int.tdiv (wrap64 ((wrap64 (b' - 1)) * 65536)) 2))) = v ∧ -65536000 ≤ v ∧ v ≤ 65536000 := by
      intro b b' h h'
      have : ∃ z, Int.tdiv ((b' - 1) * 65536) 2 = z ∧ -32768 ≤ z ∧ z ≤ 32768 := by
        have : b' = 0 ∨ b' = 1 ∨ b' = 2 := by omega
        rcases this with rfl | rfl | rfl
        · exact ⟨-32768, by decide +kernel, by omega, by omega⟩
        · exact ⟨0, by decide +kernel, by omega, by omega⟩
        · exact ⟨32768, by decide +kernel, by omega, by omega⟩
      obtain ⟨z, ez, hz0, hz1⟩ := this
      rw [wrap_in (x := b - 6) (by omega) (by omega), wrap_in (x := b' - 1) (by omega) (by omega), wrap_in (x := (b - 6) * 65536) (by omega) (by omega), wrap_in (x := (b' - 1) * 65536) (by omega) (by omega), ez, wrap_in (x := z) (by omega) (by omega), wrap_in (by omega) (by omega)]
      exact ⟨_, rfl, by omega, by omega⟩
    obtain ⟨v1, ev1, hv1⟩ := hv b1 b2 hb1 hb2
    obtain ⟨v2, ev2, hv2⟩ := hv b3 b4 hb3 hb4
    obtain ⟨R, hR, hR2⟩ := ih (x + 1) j4 (pts ++ [⟨v1, v2⟩]) (by omega) (by omega) (by simp; omega) (by
      intro p hp
      rcases List.mem_append.mp hp with hp | hp
      · exact hok p hp
      · obtain rfl := List.mem_singleton.mp hp
        exact ⟨hv1, hv2⟩) q4 r4 hc
    refine ⟨R, Ev.step (fun k => ?_) hR, hR2⟩
    rw [tourref5_Things.l1, if_pos (by omega), e1]
    simp only [Option.bind_some]
    rw [e2]
    simp only [Option.bind_some]
    rw [e3]
    simp only [Option.bind_some]
    rw [e4]
    simp only [Option.bind_some]
    rw [if_pos (by omega), ev1, ev2, wrap_in (x := x + 1) (by omega) (by omega)]

theorem l0_ok (l : List Int) (hl : l.length ≤ 9223372036854775807) (m : Int) (hm : m ≤ 6) : ∀ d : Nat, ∀ (i j : Int) (L : List Th), 0 ≤ i → (d : Int) = m - i ∨ (d = 0 ∧ m ≤ i) → L.length = i.toNat → i ≤ 6 → (∀ t ∈ L, faultV t = 0) → 0 ≤ j → j ≤ l.length →
    ∃ R, Ev (fun k => tourref5_Things.l0 k L m i l j) R ∧ okL R := by
  intro d
  induction d with
  | zero =>
    intro i j L h0 hd hL h6 hok hj0 hj1
    exact ⟨L, Ev.step (f := fun _ => some L) (fun k => by rw [tourref5_Things.l0, if_neg (by omega)]) (Ev.now _), by omega, hok⟩
  | succ d ih =>
    intro i j L h0 hd hL h6 hok hj0 hj1
    obtain ⟨b1, j1, e1, hb1, q1, r1⟩ := n_ok l hl j 2 ⟨hj0, hj1⟩ (by omega)
    obtain ⟨b2, j2, e2, hb2, q2, r2⟩ := n_ok l hl j1 3 ⟨q1, r1⟩ (by omega)
    obtain ⟨b3, j3, e3, hb3, q3, r3⟩ := n_ok l hl j2 9 ⟨q2, r2⟩ (by omega)
    obtain ⟨R, hR, hR2⟩ := l1_ok l hl L (by omega) m i (1 + b1) b2 (1 + b3) (by omega) (by omega) (1 + b1 + 1).toNat 0 j3 [] (by omega) (by omega) rfl (by simp) q3 r3 (by
      intro j' pts' k0 k1 k2 k3
      refine ih (i + 1) j' _ (by omega) (by omega) (by simp; omega) (by omega) ?_ k0 k1
      intro t ht
      rcases List.mem_append.mp ht with ht | ht
      · exact hok t ht
      · obtain rfl := List.mem_singleton.mp ht
        unfold faultV
        rw [if_pos (by simp only; omega), if_pos (by simp only; omega), if_pos k3])
    refine ⟨R, Ev.step (fun k => ?_) hR, hR2⟩
    rw [tourref5_Things.l0, if_pos (by omega), e1]
    simp only [Option.bind_some]
    rw [e2]
    simp only [Option.bind_some]
    rw [e3]
    simp only [Option.bind_some]
    rw [wrap_in (x := 1 + b1) (by omega) (by omega), wrap_in (x := 1 + b1 + 1) (by omega) (by omega), wrap_in (x := 1 + b3) (by omega) (by omega)]

/-- Drawn things are few, and right. -/
theorem things_ev (l : List Int) (hl : l.length ≤ 9223372036854775807) : ∃ L, Ev (fun k => tourref5_Things.f k l) L ∧ okL L := by
  unfold tourref5_Things.f tourref5_From.f
  simp only [Option.bind_some]
  obtain ⟨b1, j1, e1, hb1, q1, r1⟩ := n_ok l hl 0 7 ⟨by omega, by omega⟩ (by omega)
  simp only [e1, Option.bind_some]
  exact l0_ok l hl b1 (by omega) b1.toNat 0 j1 [] (by omega) (by omega) rfl (by omega) (by simp) q1 r1
end Go.Proofs.Ytijochlkmkmhdaa.ThingsCullLess
