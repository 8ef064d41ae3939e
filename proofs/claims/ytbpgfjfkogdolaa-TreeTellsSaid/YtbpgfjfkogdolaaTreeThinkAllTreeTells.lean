/- The reference's Think at a right tree and a mind of its form. Under the conditions that stand at it. -/
import Derived.Test.YtbpgfjfkogdolaaTreeThinkWalkTreeTells
import Derived.Test.YtbpgfjfkogdolaaTreeThinkListTreeTells
namespace Go.Proofs.Ytbpgfjfkogdolaa.TreeThinkAllTreeTells
open Go Go.RowKit Go.Proofs.YtbpgfjfkogdolaaW.PrintWords Go.Proofs.YtbpgfjfkogdolaaW.PrintLast Go.Proofs.YtbpgfjfkogdolaaW.PrintMore Go.Proofs.Ytbpgfjfkogdolaa.PTreeTells Go.Proofs.Ytbpgfjfkogdolaa.Fnv Go.Proofs.Ytbpgfjfkogdolaa.TreePlainTreeTells Go.Proofs.Ytbpgfjfkogdolaa.TreeMemTreeTells Go.Proofs.Ytbpgfjfkogdolaa.TreeEvTreeTells Go.Proofs.Ytbpgfjfkogdolaa.TreeTTreeTells Go.Proofs.Ytbpgfjfkogdolaa.TreeRightTreeTells Go.Proofs.Ytbpgfjfkogdolaa.TreeMindTreeTells Go.Proofs.Ytbpgfjfkogdolaa.TreeThinkTreeTells Go.Proofs.Ytbpgfjfkogdolaa.TreeStepsTreeTells Go.Proofs.Ytbpgfjfkogdolaa.TreeThinkMemTreeTells Go.Proofs.Ytbpgfjfkogdolaa.TreeThinkWalkTreeTells Go.Proofs.Ytbpgfjfkogdolaa.TreeThinkListTreeTells
set_option linter.unusedVariables false
set_option linter.unusedSimpArgs false
theorem formL_rd {F : Nd → Md → Prop} : ∀ (l : List Nd) (r : List Md), formL F l r → ∀ i : Int, 0 ≤ i → i < l.length → F (rdN l i) (rdM r i)
  | [], r, _, i, h0, h1 => by simp at h1; omega
  | x :: l, r, ⟨y, r', e, hy, h⟩, i, h0, h1 => by
    subst e
    have h1' : i < (l.length : Int) + 1 := by simpa using h1
    obtain ⟨j, rfl⟩ : ∃ j : Nat, i = (j : Int) := ⟨i.toNat, by omega⟩
    cases j with
    | zero => exact hy
    | succ j =>
      have := formL_rd l r' h (j : Int) (by omega) (by omega)
      have e1 : ((j + 1 : Nat) : Int).toNat = j + 1 := by omega
      simpa [rdN, rdM, rd_T25, rd_T40, e1] using this
theorem think_node {an0 : ByteArray → Int} {Th : Nd → Md → Unit → Int × Md × Unit} {bl : List Md} {kb : Nat} (n : Nd) (m : Md) (ho : One n) (hlen : m.f1.length = n.f3.length) (hmax : n.f3.length ≤ 1000000) (h0 : 0 ≤ m.f0) (hm : m.f0 ≤ most n) (hbl : tourref5_Blank.f kb n.f0 n.f1 n.f2 n.f3 = some (0, bl)) (hbll : bl.length = n.f3.length)
    (ih : ∀ i : Int, 0 ≤ i → i < n.f3.length → ThinkC an0 (Th (rdN n.f3 i) (rdM m.f1 i) ()) (rdN n.f3 i) (rdM m.f1 i)) (hr : ∀ i : Int, 0 ≤ i → i < n.f3.length → (Th (rdN n.f3 i) (rdM m.f1 i) ()).1 = 0 ∨ (Th (rdN n.f3 i) (rdM m.f1 i) ()).1 = 1 ∨ (Th (rdN n.f3 i) (rdM m.f1 i) ()).1 = 2) :
    ThinkC an0 (thinkN (fun _ x => (an0 x, ())) Th ⟨0, bl⟩ n m ()) n m := by
  intro Q w A3 c3 Am cm g lb fn hP hc3 hcm hT hM hQ
  obtain ⟨n0, n1, n2, n3⟩ := n
  obtain ⟨m0, m1⟩ := m
  obtain ⟨hk1, hk8, hleaf, hone, hag⟩ := ho
  dsimp only at hlen hmax h0 hm hbl hbll ih hr hc3 hcm hT hM hk1 hk8 hone hag ⊢
  rw [hlen] at hcm ⊢
  have hlist : (n0 = 3 ∨ n0 = 4 ∨ n0 = 7 ∨ n0 = 8) → m0 ≤ n3.length := by
    intro hk
    unfold most mx at hm
    dsimp only at hm
    split at hm
    · split at hm <;> omega
    · split at hm <;> omega
  rcases (show n0 = 1 ∨ n0 = 2 ∨ n0 = 3 ∨ n0 = 4 ∨ n0 = 5 ∨ n0 = 6 ∨ n0 = 7 ∨ n0 = 8 from by omega) with e | e | e | e | e | e | e | e
  · have := think_ask (an0 := an0) (n1 := n1) (n2 := n2) (m0 := m0) rfl hlen hP hc3 hcm hT hM hQ e
    subst e
    exact this
  · have := think_act (an0 := an0) (n1 := n1) (n2 := n2) (m0 := m0) rfl hlen hP hc3 hcm hT hM hQ e
    subst e
    exact this
  · have := think_list3 (n1 := n1) (n2 := n2) rfl hlen hP hc3 hcm hT hM hQ hmax h0 (hlist (by omega)) hbl hbll ih rfl e
    subst e
    exact this
  · have := think_list4 (n1 := n1) (n2 := n2) rfl hlen hP hc3 hcm hT hM hQ hmax h0 (hlist (by omega)) hbl hbll ih rfl e
    subst e
    exact this
  · have hl1 := hone (.inl e)
    have := think_not (n1 := n1) (n2 := n2) (m0 := m0) rfl hlen hP hc3 hcm hT hM hQ hl1 rfl rfl (ih 0 (by omega) (by omega)) (hr 0 (by omega) (by omega)) e
    subst e
    exact this
  · have hl1 := hone (.inr e)
    have hg := hag e
    have hm9 : m0 ≤ 1000000 := by
      unfold most at hm
      dsimp only at hm
      rw [if_neg (by omega), if_pos e] at hm
      omega
    have hi := ih 0 (by omega) (by omega)
    have hri := hr 0 (by omega) (by omega)
    rcases hri with hz | hz | hz
    · have := think_again0 (n1 := n1) (n2 := n2) rfl hlen hP hc3 hcm hT hM hQ hl1 rfl rfl hi hbl hbll h0 hm9 hz trivial e
      subst e
      have hz2 : thinkN (fun _ x => (an0 x, ())) Th ⟨0, bl⟩ ⟨6, n1, n2, n3⟩ ⟨m0, m1⟩ () = (0, ⟨0, bl⟩, ()) := by
        unfold thinkN
        dsimp only
        rw [if_neg (by decide), if_neg (by decide), if_pos rfl, if_neg (by omega), if_neg (by omega), hz]
      rw [hz2]
      exact this
    · by_cases hlt : m0 + 1 < n2
      · have := think_again1 (n1 := n1) (n2 := n2) rfl hlen hP hc3 hcm hT hM hQ hl1 rfl rfl hi hbl hbll h0 hm9 hz hlt e
        subst e
        have hz2 : thinkN (fun _ x => (an0 x, ())) Th ⟨0, bl⟩ ⟨6, n1, n2, n3⟩ ⟨m0, m1⟩ () = (2, ⟨m0 + 1, bl⟩, ()) := by
          unfold thinkN
          dsimp only
          rw [if_neg (by decide), if_neg (by decide), if_pos rfl, if_neg (by omega), if_pos ⟨hz, hlt⟩]
        rw [hz2]
        exact this
      · have := think_again01 (n1 := n1) (n2 := n2) rfl hlen hP hc3 hcm hT hM hQ hl1 rfl rfl hi hbl hbll h0 hm9 hz hlt e
        subst e
        have hz2 : thinkN (fun _ x => (an0 x, ())) Th ⟨0, bl⟩ ⟨6, n1, n2, n3⟩ ⟨m0, m1⟩ () = (1, ⟨0, bl⟩, ()) := by
          unfold thinkN
          dsimp only
          rw [if_neg (by decide), if_neg (by decide), if_pos rfl, if_neg (by omega), if_neg (by omega), hz]
        rw [hz2]
        exact this
    · have := think_again2 (n1 := n1) (n2 := n2) (m0 := m0) rfl hlen hP hc3 hcm hT hM hQ hl1 rfl rfl hi hbl hbll hz e
      subst e
      have hz2 : thinkN (fun _ x => (an0 x, ())) Th ⟨0, bl⟩ ⟨6, n1, n2, n3⟩ ⟨m0, m1⟩ () = (2, ⟨m0, [(Th (rdN n3 0) (rdM m1 0) ()).2.1]⟩, ()) := by
        unfold thinkN
        dsimp only
        rw [if_neg (by decide), if_neg (by decide), if_pos rfl, if_pos hz]
      rw [hz2]
      exact this
  · have := think_list7 (n1 := n1) (n2 := n2) rfl hlen hP hc3 hcm hT hM hQ hmax h0 (hlist (by omega)) hbl hbll ih rfl e
    subst e
    exact this
  · have := think_list8 (n1 := n1) (n2 := n2) rfl hlen hP hc3 hcm hT hM hQ hmax h0 (hlist (by omega)) hbl hbll ih rfl e
    subst e
    exact this
theorem think_all (an0 : ByteArray → Int) : ∀ (d : Nat) (n : Nd) (m : Md), Well d n → szD d n ≤ 1000 → FormM d n m → ThinkC an0 (thinkD (fun _ x => (an0 x, ())) d n m ()) n m
  | 0, n, m, hw, hs, hm => by
    obtain ⟨kb, hb⟩ := blank_ev 0 n (Well.good 0 n hw).deep (by omega)
    have h3 : n.f3 = [] := hw.2
    exact think_node n m hw.1 (by rw [hm.1, h3]; rfl) (by rw [h3]; simp) hm.2.1 hm.2.2 (hb kb (Nat.le_refl _)) (by rw [h3]; rfl) (fun i h0 h1 => by rw [h3] at h1; simp at h1; omega) (fun i h0 h1 => by rw [h3] at h1; simp at h1; omega)
  | d + 1, n, m, hw, hs, hm => by
    obtain ⟨kb, hb⟩ := blank_ev (d + 1) n (Well.good (d + 1) n hw).deep (by omega)
    have hs' : 1 + (n.f3.map (szD d)).sum ≤ 1000 := hs
    have hl := szs_le d n.f3
    have hmem : ∀ i : Int, 0 ≤ i → i < n.f3.length → rdN n.f3 i ∈ n.f3 := fun i h0 h1 => by
      have hj : i.toNat < n.f3.length := by omega
      have : rdN n.f3 i = n.f3[i.toNat] := by simp [rdN, rd_T25, List.getD_eq_getElem?_getD, List.getElem?_eq_getElem hj]
      rw [this]
      exact List.getElem_mem hj
    have hx : ∀ i : Int, 0 ≤ i → i < n.f3.length → Well d (rdN n.f3 i) ∧ szD d (rdN n.f3 i) ≤ 1000 ∧ FormM d (rdN n.f3 i) (rdM m.f1 i) := fun i h0 h1 =>
      ⟨hw.2 _ (hmem i h0 h1), by have := TreeSameTreeTells.mem_sum (List.mem_map_of_mem (f := szD d) (hmem i h0 h1)); omega, formL_rd n.f3 m.f1 hm.2.2 i h0 h1⟩
    refine think_node (Th := thinkD (fun _ x => (an0 x, ())) d) n m hw.1 (formL_len _ _ hm.2.2) (by omega) hm.1 hm.2.1 (hb kb (Nat.le_refl _)) (by simp [blankM]) (fun i h0 h1 => think_all an0 d _ _ (hx i h0 h1).1 (hx i h0 h1).2.1 (hx i h0 h1).2.2) (fun i h0 h1 => ?_)
    have hgood := Well.good d _ (hx i h0 h1).1
    have h2 := think_same (fun (_ : Unit) x => (an0 x, ())) d _ hgood _ () (hx i h0 h1).2.2
    have h3 := T_res (fun (_ : Unit) x => (an0 x, ())) d _ hgood (flat d (rdM m.f1 i)) ()
    rw [h2.1] at h3
    exact h3
end Go.Proofs.Ytbpgfjfkogdolaa.TreeThinkAllTreeTells
