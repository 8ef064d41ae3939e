/- tree.Tick over a right tree and a right memory. Under the conditions that stand at it. -/
import Derived.Test.YtbpgfjfkogdolaaTreeSameTreeAsks
namespace Go.Proofs.Ytbpgfjfkogdolaa.TreeRightTreeAsks
open Go Go.RowKit Go.Proofs.YtbpgfjfkogdolaaW.PrintWords Go.Proofs.YtbpgfjfkogdolaaW.PrintLast Go.Proofs.YtbpgfjfkogdolaaW.PrintMore Go.Proofs.Ytbpgfjfkogdolaa.PTreeAsks Go.Proofs.Ytbpgfjfkogdolaa.Fnv Go.Proofs.Ytbpgfjfkogdolaa.TreePlainTreeAsks Go.Proofs.Ytbpgfjfkogdolaa.TreeEvTreeAsks Go.Proofs.Ytbpgfjfkogdolaa.TreeTTreeAsks Go.Proofs.Ytbpgfjfkogdolaa.TreeSameTreeAsks Go.Proofs.Ytbpgfjfkogdolaa.TreeCheckTreeAsks Go.Proofs.Ytbpgfjfkogdolaa.TreeTopTreeAsks
set_option linter.unusedVariables false
set_option linter.unusedSimpArgs false
/-- A right node, its kids aside. -/
def One (n : Nd) : Prop := 1 ≤ n.f0 ∧ n.f0 ≤ 8 ∧ ((n.f0 = 1 ∨ n.f0 = 2) → n.f3 = [] ∧ 1 ≤ n.f1.size ∧ n.f1.size ≤ 16) ∧ ((n.f0 = 5 ∨ n.f0 = 6) → n.f3.length = 1) ∧ (n.f0 = 6 → 1 ≤ n.f2 ∧ n.f2 ≤ 1000)
def Well : Nat → Nd → Prop
  | 0, n => One n ∧ n.f3 = []
  | d + 1, n => One n ∧ ∀ x ∈ n.f3, Well d x
theorem Well.one : ∀ {d : Nat} {n : Nd}, Well d n → One n
  | 0, _, h => h.1
  | _ + 1, _, h => h.1
theorem Well.good : ∀ (d : Nat) (n : Nd), Well d n → Good2 d n
  | 0, n, h => ⟨h.2, fun h5 => (by have := h.1.2.2.2.1 (.inl h5); rw [h.2] at this; cases this), fun h6 => (by have := h.1.2.2.2.1 (.inr h6); rw [h.2] at this; cases this)⟩
  | d + 1, n, ⟨h, hk⟩ => ⟨h.2.2.2.1, h.2.2.2.2, fun x hx => Well.good d x (hk x hx)⟩
theorem badV_well {n : Nd} (h : One n) (c : Int) (hc : c ≤ 200) : badV n c = 0 := by
  obtain ⟨h1, h2, h3, h4, h5⟩ := h
  unfold badV
  rw [if_neg (by omega), if_neg (by omega), if_neg, if_neg, if_neg]
  · rintro ⟨h6, h7⟩
    have := h5 h6
    omega
  · rintro ⟨h6, h7⟩
    exact h7 (h4 h6)
  · rintro ⟨h6, h7⟩
    obtain ⟨e, ha, hb⟩ := h3 h6
    rw [e] at h7
    rcases h7 with h7 | h7 | h7
    · exact absurd h7 (by simp)
    · omega
    · omega
theorem check_loop (d : Nat) (ih : ∀ (n : Nd) (c : Int), Well d n → 0 ≤ c → c + szD d n ≤ 200 → Evt (fun k => checkF k n c) (0, c + szD d n)) :
    ∀ (post pre : List Nd) (i c : Int), (∀ x ∈ post, Well d x) → i = pre.length → 0 ≤ c → c + (post.map (szD d)).sum ≤ 200 → pre.length + post.length ≤ 1000 → Evt (fun k => checkL k (pre ++ post) i c) (0, c + (post.map (szD d)).sum)
  | [], pre, i, c, _, hi, _, _, _ => by
    refine Evt.succ (p := fun _ => some (0, c)) (by simpa using Evt.const ((0 : Int), c)) fun k => ?_
    rw [checkL, if_neg (by simp; omega)]
  | x :: post, pre, i, c, hx, hi, h0, hs, hp => by
    have hs' : c + (szD d x + (post.map (szD d)).sum : Nat) ≤ 200 := by simpa using hs
    have hxp := szD_pos d x
    have h1 := ih x c (hx x (by simp)) h0 (by omega)
    refine Evt.succ (p := fun k => (checkF k x c).bind fun y => if y.1 = 0 then checkL k (pre ++ x :: post) (wrap64 (i + 1)) y.2 else some y) (Evt.bind h1 ?_) fun k => ?_
    · rw [show c + (((x :: post).map (szD d)).sum : Nat) = (c + szD d x) + ((post.map (szD d)).sum : Nat) by simp; omega]
      have hp' : pre.length + (post.length + 1) ≤ 1000 := by simpa using hp
      have := check_loop d ih post (pre ++ [x]) (wrap64 (i + 1)) (c + szD d x) (fun y hy => hx y (by simp [hy])) (by rw [w64 (by omega) (by omega)]; simp; omega) (by omega) (by omega) (by simp; omega)
      rw [show pre ++ [x] ++ post = pre ++ x :: post by simp] at this
      exact Evt.congr this fun k => if_pos rfl
    · rw [checkL, if_pos (by simp; omega), if_pos (by omega), rdN_at pre x post i hi]
theorem check_ev : ∀ (d : Nat) (n : Nd) (c : Int), Well d n → 0 ≤ c → c + szD d n ≤ 200 → Evt (fun k => checkF k n c) (0, c + szD d n)
  | 0, n, c, h, h0, hs => by
    have hs' : c + 1 ≤ 200 := hs
    have hw : wrap64 (c + 1) = c + 1 := w64 (by omega) (by omega)
    have hb := badV_well h.1 (wrap64 (c + 1)) (by omega)
    refine Evt.succ (p := fun k => checkL k n.f3 0 (wrap64 (c + 1))) ?_ fun k => by rw [checkF, if_pos hb]
    rw [h.2, hw]
    exact Evt.succ (p := fun _ => some (0, c + 1)) (Evt.const _) fun k => by rw [checkL, if_neg (by simp)]
  | d + 1, n, c, h, h0, hs => by
    have hs' : c + (1 + (n.f3.map (szD d)).sum : Nat) ≤ 200 := hs
    have hl := szs_le d n.f3
    have hw : wrap64 (c + 1) = c + 1 := w64 (by omega) (by omega)
    have hb := badV_well h.1 (wrap64 (c + 1)) (by omega)
    refine Evt.succ (p := fun k => checkL k n.f3 0 (wrap64 (c + 1))) ?_ fun k => by rw [checkF, if_pos hb]
    rw [hw]
    have := check_loop d (check_ev d) n.f3 [] 0 (c + 1) h.2 rfl (by omega) (by omega) (by simp; omega)
    rw [show c + ((szD (d + 1) n : Nat) : Int) = c + 1 + ((n.f3.map (szD d)).sum : Nat) by show c + ((1 + (n.f3.map (szD d)).sum : Nat) : Int) = _; omega]
    exact this

/-- What fits says at a node, its kids' numbers seen. -/
theorem fits_head {n : Nd} {h : Int} {l : List Int} {b : Bool} (hh0 : 0 ≤ h) (hh1 : h ≤ most n) (hk : n.f3.length ≤ 1000000) (h6 : n.f0 = 6 → 1 ≤ n.f2 ∧ n.f2 ≤ 1000) (hl : Evt (fun k => tree_fits.l0 k (h :: l) 1 n.f3 (n.f3.length : Int) 0) b) : Evt (fun k => tree_fits.f k n.f0 n.f1 n.f2 n.f3 (h :: l)) b := by
  have hj2 : Evt (fun k => tree_fits.j2 k (h :: l) false n.f0 n.f1 n.f2 n.f3) b := hl.succ fun k => by rw [tree_fits.j2, if_neg (by decide)]
  have hj1 : ∀ m, h ≤ m → Evt (fun k => tree_fits.j1 k (h :: l) m n.f0 n.f1 n.f2 n.f3) b := fun m hm => hj2.succ fun k => by
    rw [tree_fits.j1, if_pos (by simp only [List.length_cons]; omega), show rd (h :: l) 0 = h from rfl, if_neg (by omega), show decide (h > m) = false from decide_eq_false (by omega)]
  have hw1 : wrap64 ((n.f3.length : Int) - 1) = n.f3.length - 1 := w64 (by omega) (by omega)
  have hj0 : Evt (fun k => tree_fits.j0 k (h :: l) 0 n.f0 (decide (n.f0 = 3 ∨ n.f0 = 4)) n.f0 n.f1 n.f2 n.f3) b := by
    unfold most at hh1
    by_cases h34 : n.f0 = 3 ∨ n.f0 = 4
    · rw [if_pos h34] at hh1
      refine (hj1 (mx (wrap64 ((n.f3.length : Int) - 1)) 0) (by rw [hw1]; exact hh1)).succ fun k => ?_
      rw [tree_fits.j0, if_pos (by simpa using h34)]
    · rw [if_neg h34] at hh1
      by_cases c6 : n.f0 = 6
      · rw [if_pos c6] at hh1
        have := h6 c6
        refine (hj1 (wrap64 (n.f2 - 1)) (by rw [w64 (by omega) (by omega)]; exact hh1)).succ fun k => ?_
        rw [tree_fits.j0, if_neg (by simpa using h34), if_pos c6]
      · rw [if_neg c6] at hh1
        refine (hj1 0 hh1).succ fun k => ?_
        rw [tree_fits.j0, if_neg (by simpa using h34), if_neg c6]
  refine hj0.succ fun k => ?_
  by_cases c3 : n.f0 = 3
  · rw [tree_fits.f, if_pos c3, show (n.f0 == 3) = decide (n.f0 = 3 ∨ n.f0 = 4) by simp [c3]]
  · rw [tree_fits.f, if_neg c3, show (n.f0 == 4) = decide (n.f0 = 3 ∨ n.f0 = 4) by rw [decide_eq_decide.mpr (show (n.f0 = 3 ∨ n.f0 = 4) ↔ n.f0 = 4 by simp [c3])]; rfl]
theorem fits_loop (d : Nat) (ih : ∀ (n : Nd) (μ post : List Int), Well d n → Fit d n μ → szD d n ≤ 1000000 → μ.length + post.length ≤ 1000000 → Evt (fun k => tree_fits.f k n.f0 n.f1 n.f2 n.f3 (μ ++ post)) true) :
    ∀ (rest doneK : List Nd) (pre ν post : List Int) (at_ i : Int) (N : Nat), (∀ x ∈ rest, Well d x) → fitL (Fit d) (szD d) rest ν → at_ = pre.length → i = doneK.length → N = doneK.length + rest.length → N ≤ 1000000 → pre.length + ν.length + post.length ≤ 1000000 → Evt (fun k => tree_fits.l0 k (pre ++ ν ++ post) at_ (doneK ++ rest) (N : Int) i) true
  | [], doneK, pre, ν, post, at_, i, N, _, _, _, hi, hN, _, _ => by
    exact Evt.succ (p := fun _ => some true) (Evt.const _) fun k => by rw [tree_fits.l0, if_neg (by simp at hN; omega)]
  | x :: rest, doneK, pre, ν, post, at_, i, N, hw, ⟨α, β, e, h3, h4, h5⟩, ha, hi, hN, hN1, hl => by
    have hx := hw x (by simp)
    have hN' : N = doneK.length + (rest.length + 1) := by simpa using hN
    have hνl : ν.length = α.length + β.length := by rw [e]; simp
    have hdrop : (pre ++ ν ++ post).drop at_.toNat = α ++ (β ++ post) := by
      rw [show pre ++ ν ++ post = pre ++ (α ++ (β ++ post)) by rw [e]; simp, show at_.toNat = pre.length by omega, List.drop_left]
    refine Evt.succ (p := fun k => (tree_fits.f k x.f0 x.f1 x.f2 x.f3 (α ++ (β ++ post))).bind fun b => if b = true then (sizeF k x).bind fun z => tree_fits.l0 k (pre ++ ν ++ post) (wrap64 (at_ + z)) (doneK ++ x :: rest) (N : Int) (wrap64 (i + 1)) else some false)
      (Evt.bind (ih x α (β ++ post) hx h4 (by omega) (by simp; omega)) ?_) fun k => ?_
    · refine Evt.congr (Evt.bind (size_ev d x (Well.good d x hx).deep (by omega)) ?_) fun k => if_pos rfl
      have := fits_loop d ih rest (doneK ++ [x]) (pre ++ α) β post (wrap64 (at_ + (szD d x : Int))) (wrap64 (i + 1)) N (fun y hy => hw y (by simp [hy])) h5 (by rw [w64 (by omega) (by omega)]; simp; omega) (by rw [w64 (by omega) (by omega)]; simp; omega) (by simp; omega) hN1 (by simp; omega)
      rw [show pre ++ α ++ β ++ post = pre ++ ν ++ post by rw [e]; simp, show doneK ++ [x] ++ rest = doneK ++ x :: rest by simp] at this
      exact this
    · have hx0 : rd_T25 (doneK ++ x :: rest) i = x := rdN_at doneK x rest i hi
      rw [tree_fits.l0, if_pos (by omega), if_pos (by omega), if_pos (by simp; omega), if_pos (by omega), if_pos (by simp; omega), hx0, hdrop]
      rfl
theorem fits_ev : ∀ (d : Nat) (n : Nd) (μ post : List Int), Well d n → Fit d n μ → szD d n ≤ 1000000 → μ.length + post.length ≤ 1000000 → Evt (fun k => tree_fits.f k n.f0 n.f1 n.f2 n.f3 (μ ++ post)) true
  | 0, n, μ, post, hw, ⟨h, e, h0, h1⟩, hs, hl => by
    rw [e]
    refine fits_head h0 h1 (by rw [hw.2]; simp) hw.1.2.2.2.2 ?_
    rw [hw.2]
    exact Evt.succ (p := fun _ => some true) (Evt.const _) fun k => by rw [tree_fits.l0, if_neg (by simp)]
  | d + 1, n, μ, post, hw, ⟨h, ν, e, h0, h1, hν⟩, hs, hl => by
    rw [e] at hl ⊢
    have hs' : 1 + (n.f3.map (szD d)).sum ≤ 1000000 := hs
    have hll := szs_le d n.f3
    simp only [List.length_cons] at hl
    refine fits_head h0 h1 (by omega) hw.1.2.2.2.2 ?_
    have := fits_loop d (fits_ev d) n.f3 [] [h] ν post 1 0 n.f3.length hw.2 hν rfl rfl (by simp) (by omega) (by simp; omega)
    exact this

/-- tree.Tick, at a right tree with a right memory or none. -/
theorem top_ev {σ : Type} (an : σ → ByteArray → Int × σ) (d : Nat) (n : Nd) (hw : Well d n) (hs : szD d n ≤ 200) (mem μ : List Int) (hμ : Fit d n μ) (hm : mem = μ ∨ mem = [] ∧ μ = zs (szD d n)) (s : σ) :
    Evt (fun k => topF an k n mem s) ((T an d n μ s).1, (T an d n μ s).2.1, 0, (T an d n μ s).2.2) := by
  have hlen := Fit.len d n μ hμ
  have hp := szD_pos d n
  have hwalk : Evt (fun k => walkF an k n μ s) ((T an d n μ s).1, (T an d n μ s).2.1, 0, (T an d n μ s).2.2) := by
    have := tick_same an d n (Well.good d n hw) (by omega) μ hμ [] [] 0 s rfl (by simp; omega)
    simp only [List.nil_append, List.append_nil] at this
    exact Evt.bind this (Evt.const _)
  refine Evt.bind (check_ev d n 0 hw (by omega) (by omega)) ?_
  refine Evt.congr (p := fun k => (sizeF k n).bind _) (Evt.bind (size_ev d n (Well.good d n hw).deep (by omega)) ?_) fun k => if_pos rfl
  rcases hm with rfl | ⟨rfl, hz⟩
  · have hf := fits_ev d n mem [] hw hμ (by omega) (by simp; omega)
    rw [List.append_nil] at hf
    refine Evt.congr (p := fun k => (tree_fits.f k n.f0 n.f1 n.f2 n.f3 mem).bind _) (Evt.bind hf ?_) fun k => by rw [if_pos (by omega), if_pos (by omega), if_pos (by omega)]
    exact Evt.congr hwalk fun k => if_pos rfl
  · refine Evt.congr hwalk fun k => ?_
    rw [if_pos (by omega), if_neg (by simp), hz]
    rfl
end Go.Proofs.Ytbpgfjfkogdolaa.TreeRightTreeAsks
