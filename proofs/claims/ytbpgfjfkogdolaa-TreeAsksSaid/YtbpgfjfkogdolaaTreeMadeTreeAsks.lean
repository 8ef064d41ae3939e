/- The trees that tourref5.Tree makes. Under the conditions that stand at each. -/
import Derived.Test.YtbpgfjfkogdolaaTreeRightTreeAsks
namespace Go.Proofs.Ytbpgfjfkogdolaa.TreeMadeTreeAsks
open Go Go.RowKit Go.Proofs.YtbpgfjfkogdolaaW.PrintWords Go.Proofs.YtbpgfjfkogdolaaW.PrintLast Go.Proofs.YtbpgfjfkogdolaaW.PrintMore Go.Proofs.Ytbpgfjfkogdolaa.PTreeAsks Go.Proofs.Ytbpgfjfkogdolaa.Fnv Go.Proofs.Ytbpgfjfkogdolaa.TreePlainTreeAsks Go.Proofs.Ytbpgfjfkogdolaa.TreeEvTreeAsks Go.Proofs.Ytbpgfjfkogdolaa.TreeTTreeAsks Go.Proofs.Ytbpgfjfkogdolaa.TreeRightTreeAsks Go.Proofs.Ytbpgfjfkogdolaa.TreeAnswersTreeAsks
set_option linter.unusedVariables false
set_option linter.unusedSimpArgs false
theorem N_made (s : List Int) (hs : s.length ≤ 9223372036854775807) (pos n : Int) (h0 : 0 ≤ pos) (hn : 0 < n) (hn1 : n ≤ 100) : ∃ v p, tourref5_Source_N.f s pos n = some (v, p) ∧ 0 ≤ v ∧ v < n ∧ 0 ≤ p := by
  unfold tourref5_Source_N.f
  by_cases h : pos ≥ (s.length : Int)
  · rw [if_pos h]
    exact ⟨0, pos, rfl, by omega, by omega, h0⟩
  · rw [if_neg h]
    have e1 : wrap64 (pos + 1) = pos + 1 := by unfold wrap64; omega
    have e2 : wrap64 (pos + 1 - 1) = pos := by unfold wrap64; omega
    rw [e1, e2, if_pos h0, if_pos (by omega), below_f _ _ (by omega)]
    have := belowV_range (rd s pos) n hn (by omega)
    exact ⟨_, _, rfl, this.1, this.2, by omega⟩
def cap : Nat → Nat
  | 0 => 1
  | d + 1 => 1 + 3 * cap d
/-- A tree as the four things that the calls hand over. -/
def parts (t : Nd) (p : Int) : Int × ByteArray × Int × List Nd × Int := (t.f0, t.f1, t.f2, t.f3, p)
theorem loop_made (s : List Int) (d : Nat) (kind nv : Int) (name : ByteArray) (a1 : Int) (ha : wrap64 (a1 - 1) = d)
    (ih : ∀ pos, 0 ≤ pos → ∃ t p, 0 ≤ p ∧ Evt (fun k => tourref5_treeOf.f k s pos (d : Int)) (parts t p) ∧ Well d t ∧ szD d t ≤ cap d) :
    ∀ (j : Nat) (i : Int) (pos : Int) (kids : List Nd), 0 ≤ pos → 0 ≤ i → i + j ≤ 3 → kids.length = i → ∃ (new : List Nd) (p : Int), 0 ≤ p ∧ new.length = j ∧ (∀ x ∈ new, Well d x ∧ szD d x ≤ cap d) ∧
      Evt (fun k => tourref5_treeOf.l0 k a1 (i + j) i s pos kind name nv kids) (kind, name, nv, kids ++ new, p)
  | 0, i, pos, kids, h0, hi, hj, hk => ⟨[], pos, h0, rfl, by simp, Evt.succ (p := fun _ => some (kind, name, nv, kids, pos)) (by rw [List.append_nil]; exact Evt.const _) fun k => by rw [tourref5_treeOf.l0, if_neg (by omega)]⟩
  | j + 1, i, pos, kids, h0, hi, hj, hk => by
    obtain ⟨t, p, hp, ht, hw, hz⟩ := ih pos h0
    obtain ⟨new, p2, hp2, hl, hall, hev⟩ := loop_made s d kind nv name a1 ha ih j (i + 1) p (kids ++ [t]) hp (by omega) (by omega) (by simp; omega)
    refine ⟨t :: new, p2, hp2, by simp [hl], ?_, ?_⟩
    · intro x hx
      rcases List.mem_cons.mp hx with rfl | hx
      · exact ⟨hw, hz⟩
      · exact hall x hx
    · refine Evt.succ (p := fun k => (tourref5_treeOf.f k s pos (d : Int)).bind fun bt => tourref5_treeOf.l0 k a1 (i + (j + 1 : Nat)) (wrap64 (i + 1)) s bt.2.2.2.2 kind name nv (kids ++ [(⟨bt.1, bt.2.1, bt.2.2.1, bt.2.2.2.1⟩ : Nd)])) (Evt.bind ht ?_) fun k => ?_
      · have e : (⟨(parts t p).1, (parts t p).2.1, (parts t p).2.2.1, (parts t p).2.2.2.1⟩ : Nd) = t := by obtain ⟨f0, f1, f2, f3⟩ := t; rfl
        rw [e, show wrap64 (i + 1) = i + 1 from w64 (by omega) (by omega), show i + ((j + 1 : Nat) : Int) = i + 1 + j by omega, show kids ++ t :: new = kids ++ [t] ++ new by simp]
        exact hev
      · rw [tourref5_treeOf.l0, if_pos (by omega), ha]
        simp only [if_pos (show kids.length < 2513169434916 by omega)]
theorem sum_cap (d c : Nat) : ∀ (l : List Nd), (∀ x ∈ l, szD d x ≤ c) → (l.map (szD d)).sum ≤ l.length * c
  | [], _ => by simp
  | x :: l, h => by
    have h1 := h x (by simp)
    have h2 := sum_cap d c l (fun y hy => h y (by simp [hy]))
    simp only [List.map_cons, List.sum_cons, List.length_cons]
    rw [Nat.succ_mul]
    omega
theorem name_size (v : Int) : (strOfNums [v]).size = 1 := by simp [strOfNums, ByteArray.size]
theorem node_made (d : Nat) (s : List Int) (hs : s.length ≤ 9223372036854775807) (κ nv pos : Int) (hk1 : 1 ≤ κ) (hk8 : κ ≤ 8) (hn1 : 1 ≤ nv) (hn2 : nv ≤ 1000) (hp : 0 ≤ pos) (h0 : d = 0 → κ ≤ 2) (hd3 : d ≤ 3)
    (ih : ∀ d', d = d' + 1 → ∀ pos, 0 ≤ pos → ∃ t p, 0 ≤ p ∧ Evt (fun k => tourref5_treeOf.f k s pos (d' : Int)) (parts t p) ∧ Well d' t ∧ szD d' t ≤ cap d') :
    ∃ t p, 0 ≤ p ∧ Evt (fun k => tourref5_treeOf.j0 k (d : Int) s pos κ (⟨#[]⟩ : ByteArray) nv) (parts t p) ∧ Well d t ∧ szD d t ≤ cap d := by
  suffices h : ∃ t p, 0 ≤ p ∧ Evt (fun k => tourref5_treeOf.j1 k (d : Int) κ (decide (κ = 1 ∨ κ = 2)) s pos κ (⟨#[]⟩ : ByteArray) nv) (parts t p) ∧ Well d t ∧ szD d t ≤ cap d by
    obtain ⟨t, p, h1, h2, h3, h4⟩ := h
    refine ⟨t, p, h1, h2.succ fun k => ?_, h3, h4⟩
    by_cases c1 : κ = 1
    · rw [tourref5_treeOf.j0, if_pos c1, show (κ == 1) = decide (κ = 1 ∨ κ = 2) by subst c1; rfl]
    · rw [tourref5_treeOf.j0, if_neg c1, show (κ == 2) = decide (κ = 1 ∨ κ = 2) by rw [decide_eq_decide.mpr (show (κ = 1 ∨ κ = 2) ↔ κ = 2 by simp [c1])]; rfl]
  by_cases c12 : κ = 1 ∨ κ = 2
  · rw [decide_eq_true c12]
    obtain ⟨v, p, hN, hv0, hv1, hp1⟩ := N_made s hs pos 6 hp (by omega) (by omega)
    refine ⟨⟨κ, strOfNums [(97 + v % 256) % 256], nv, []⟩, p, hp1, ?_, ?_, ?_⟩
    · exact Evt.succ (p := fun _ => some (κ, strOfNums [(97 + v % 256) % 256], nv, ([] : List Nd), p)) (Evt.const _) fun k => by rw [tourref5_treeOf.j1, if_pos rfl, hN]; rfl
    · have ho : One ⟨κ, strOfNums [(97 + v % 256) % 256], nv, []⟩ := ⟨hk1, hk8, fun _ => ⟨rfl, by rw [name_size]; omega, by rw [name_size]; omega⟩, fun h => by dsimp only at h; omega, fun h => by dsimp only at h; omega⟩
      cases d with
      | zero => exact ⟨ho, rfl⟩
      | succ d => exact ⟨ho, by simp⟩
    · cases d <;> simp [szD, cap]
  · rw [decide_eq_false c12]
    cases d with
    | zero => exact absurd (h0 rfl) (by omega)
    | succ d =>
      have ew : wrap64 (((d + 1 : Nat) : Int) - 1) = d := by rw [w64 (by omega) (by omega)]; omega
      have n12 : ¬ (κ = 1 ∨ κ = 2) := c12
      by_cases c56 : κ = 5 ∨ κ = 6
      · obtain ⟨t, p, hp1, ht, hw, hz⟩ := ih d rfl pos hp
        have et : (⟨(parts t p).1, (parts t p).2.1, (parts t p).2.2.1, (parts t p).2.2.2.1⟩ : Nd) = t := by obtain ⟨f0, f1, f2, f3⟩ := t; rfl
        refine ⟨⟨κ, ⟨#[]⟩, nv, [t]⟩, p, hp1, ?_, ⟨⟨hk1, hk8, fun h => absurd h n12, fun _ => rfl, fun _ => ⟨hn1, hn2⟩⟩, by simpa using hw⟩, ?_⟩
        · refine Evt.succ (p := fun k => (tourref5_treeOf.f k s pos (d : Int)).bind fun bt => some (κ, (⟨#[]⟩ : ByteArray), nv, [(⟨bt.1, bt.2.1, bt.2.2.1, bt.2.2.2.1⟩ : Nd)], bt.2.2.2.2)) (Evt.bind ht ?_) fun k => ?_
          · rw [et]
            exact Evt.const _
          · rw [tourref5_treeOf.j1, if_neg (by decide), ew]
            by_cases c5 : κ = 5
            · rw [if_pos c5]
            · rw [if_neg c5, if_pos (by omega)]
        · simp only [szD, cap, List.map_cons, List.map_nil, List.sum_cons, List.sum_nil]
          omega
      · obtain ⟨v, p, hN, hv0, hv1, hp1⟩ := N_made s hs pos 4 hp (by omega) (by omega)
        obtain ⟨new, p2, hp2, hl, hall, hev⟩ := loop_made s d κ nv ⟨#[]⟩ ((d + 1 : Nat) : Int) ew (ih d rfl) v.toNat 0 p [] hp1 (by omega) (by omega) rfl
        rw [show (0 : Int) + (v.toNat : Int) = v by omega] at hev
        refine ⟨⟨κ, ⟨#[]⟩, nv, new⟩, p2, hp2, ?_, ⟨⟨hk1, hk8, fun h => absurd h n12, fun h => absurd h c56, fun _ => ⟨hn1, hn2⟩⟩, fun x hx => (hall x hx).1⟩, ?_⟩
        · refine hev.succ fun k => ?_
          rw [tourref5_treeOf.j1, if_neg (by decide), if_neg (by omega), if_neg (by omega), hN]
          rfl
        · have h1 := sum_cap d (cap d) new (fun x hx => (hall x hx).2)
          have h2 : new.length * cap d ≤ 3 * cap d := Nat.mul_le_mul_right _ (by omega)
          show 1 + (new.map (szD d)).sum ≤ 1 + 3 * cap d
          omega
theorem made : ∀ (d : Nat), d ≤ 3 → ∀ (s : List Int), s.length ≤ 9223372036854775807 → ∀ (pos : Int), 0 ≤ pos → ∃ t p, 0 ≤ p ∧ Evt (fun k => tourref5_treeOf.f k s pos (d : Int)) (parts t p) ∧ Well d t ∧ szD d t ≤ cap d
  | d, hd, s, hs, pos, hp => by
    have ih : ∀ d', d = d' + 1 → ∀ pos, 0 ≤ pos → ∃ t p, 0 ≤ p ∧ Evt (fun k => tourref5_treeOf.f k s pos (d' : Int)) (parts t p) ∧ Well d' t ∧ szD d' t ≤ cap d' := fun d' e pos hp => made d' (by omega) s hs pos hp
    obtain ⟨v8, p8, e8, a8, b8, c8⟩ := N_made s hs pos 8 hp (by omega) (by omega)
    obtain ⟨v3, p3, e3, a3, b3, c3⟩ := N_made s hs p8 3 c8 (by omega) (by omega)
    have w8 : wrap64 (1 + v8) = 1 + v8 := w64 (by omega) (by omega)
    have w3 : wrap64 (1 + v3) = 1 + v3 := w64 (by omega) (by omega)
    by_cases h0 : d = 0
    · obtain ⟨v2, p2, e2, a2, b2, c2⟩ := N_made s hs p3 2 c3 (by omega) (by omega)
      have w2 : wrap64 (1 + v2) = 1 + v2 := w64 (by omega) (by omega)
      obtain ⟨t, p, h1, h2, h3, h4⟩ := node_made d s hs (1 + v2) (1 + v3) p2 (by omega) (by omega) (by omega) (by omega) c2 (fun _ => by omega) hd ih
      refine ⟨t, p, h1, h2.succ fun k => ?_, h3, h4⟩
      rw [tourref5_treeOf.f, e8]
      show (tourref5_Source_N.f s p8 3).bind _ = _
      rw [e3]
      show (if (d : Int) = 0 then _ else _) = _
      rw [if_pos (by omega), e2]
      show tourref5_treeOf.j0 k (d : Int) s p2 (wrap64 (1 + v2)) _ (wrap64 (1 + v3)) = _
      rw [w2, w3]
    · obtain ⟨t, p, h1, h2, h3, h4⟩ := node_made d s hs (1 + v8) (1 + v3) p3 (by omega) (by omega) (by omega) (by omega) c3 (fun h => absurd h h0) hd ih
      refine ⟨t, p, h1, h2.succ fun k => ?_, h3, h4⟩
      rw [tourref5_treeOf.f, e8]
      show (tourref5_Source_N.f s p8 3).bind _ = _
      rw [e3]
      show (if (d : Int) = 0 then _ else _) = _
      rw [if_neg (by omega)]
      show tourref5_treeOf.j0 k (d : Int) s p3 (wrap64 (1 + v8)) _ (wrap64 (1 + v3)) = _
      rw [w8, w3]
/-- What tourref5.Tree makes: a right tree of at most 40 nodes. -/
theorem tree_made (l : List Int) (hl : l.length ≤ 9223372036854775807) : ∃ t : Nd, Evt (fun k => tourref5_Tree.f k l) (t.f0, t.f1, t.f2, t.f3) ∧ Well 3 t ∧ szD 3 t ≤ 40 := by
  obtain ⟨t, p, hp, ht, hw, hz⟩ := made 3 (by omega) l hl 0 (by omega)
  refine ⟨t, ?_, hw, hz⟩
  refine Evt.bind (o := fun _ => tourref5_From.f l) (Evt.const (l, (0 : Int))) ?_
  exact Evt.bind ht (Evt.const _)
end Go.Proofs.Ytbpgfjfkogdolaa.TreeMadeTreeAsks
