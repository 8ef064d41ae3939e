/- A tree's walk in plain words: sizes, what is forgotten. Under no condition but what stands at each. -/
import Derived.Test.YtbpgfjfkogdolaaTreeAnswersTreeAsks
namespace Go.Proofs.Ytbpgfjfkogdolaa.TreeEvTreeAsks
open Go Go.RowKit Go.Proofs.YtbpgfjfkogdolaaW.PrintWords Go.Proofs.YtbpgfjfkogdolaaW.PrintLast Go.Proofs.YtbpgfjfkogdolaaW.PrintMore Go.Proofs.Ytbpgfjfkogdolaa.PTreeAsks Go.Proofs.Ytbpgfjfkogdolaa.Fnv Go.Proofs.Ytbpgfjfkogdolaa.TreePlainTreeAsks
set_option linter.unusedVariables false
/-- From some fuel on. -/
def Evt {α : Type} (o : Nat → Option α) (a : α) : Prop := ∃ K, ∀ k, K ≤ k → o k = some a
theorem Evt.const {α : Type} (a : α) : Evt (fun _ => some a) a := ⟨0, fun _ _ => rfl⟩
theorem Evt.succ {α : Type} {o p : Nat → Option α} {a : α} (h : Evt p a) (hs : ∀ k, o (k + 1) = p k) : Evt o a := by
  obtain ⟨K, hK⟩ := h
  refine ⟨K + 1, fun k hk => ?_⟩
  obtain ⟨j, rfl⟩ : ∃ j, k = j + 1 := ⟨k - 1, by omega⟩
  rw [hs]
  exact hK j (by omega)
theorem Evt.bind {α β : Type} {o : Nat → Option α} {f : Nat → α → Option β} {a : α} {b : β} (h : Evt o a) (g : Evt (fun k => f k a) b) : Evt (fun k => (o k).bind (f k)) b := by
  obtain ⟨K, hK⟩ := h
  obtain ⟨L, hL⟩ := g
  refine ⟨K + L, fun k hk => ?_⟩
  show (o k).bind (f k) = some b
  rw [hK k (by omega)]
  exact hL k (by omega)
theorem Evt.congr {α : Type} {o p : Nat → Option α} {a : α} (h : Evt p a) (e : ∀ k, o k = p k) : Evt o a := by
  obtain ⟨K, hK⟩ := h
  exact ⟨K, fun k hk => (e k).trans (hK k hk)⟩

/-- How deep a tree may be. -/
def Deep : Nat → Nd → Prop
  | 0, n => n.f3 = []
  | d + 1, n => ∀ x ∈ n.f3, Deep d x
def szD : Nat → Nd → Nat
  | 0, _ => 1
  | d + 1, n => 1 + (n.f3.map (szD d)).sum
theorem szD_pos (d : Nat) (n : Nd) : 0 < szD d n := by cases d <;> simp [szD]; omega
theorem rdN_at (pre : List Nd) (x : Nd) (post : List Nd) (i : Int) (h : i = pre.length) : rdN (pre ++ x :: post) i = x := by
  subst h
  simp [rdN, rd_T25]
theorem w64 {x : Int} (h0 : -1 ≤ x) (h1 : x ≤ 2000000000) : wrap64 x = x := by unfold wrap64; omega
theorem szs_le (d : Nat) (l : List Nd) : l.length ≤ (l.map (szD d)).sum := by
  induction l with
  | nil => simp
  | cons x l ih => have := szD_pos d x; simp; omega

theorem size_loop (d : Nat) (ih : ∀ n, Deep d n → szD d n ≤ 1000000 → Evt (fun k => sizeF k n) (szD d n : Int)) :
    ∀ (post pre : List Nd) (m : Nat), (∀ x ∈ post, Deep d x) → m + (post.map (szD d)).sum ≤ 1000000 → pre.length + post.length ≤ 1000000 → Evt (fun k => tree_Size.l0 k (m : Int) (pre ++ post) ((pre ++ post).length : Int) (pre.length : Int)) ((m + (post.map (szD d)).sum : Nat) : Int)
  | [], pre, m, _, _, _ => by
    refine Evt.succ (p := fun _ => some (m : Int)) (by simpa using Evt.const (m : Int)) fun k => ?_
    rw [tree_Size.l0, if_neg (by simp)]
  | x :: post, pre, m, hx, hm, hl => by
    have hm' : m + (szD d x + (post.map (szD d)).sum) ≤ 1000000 := by simpa using hm
    have hl' : pre.length + (post.length + 1) ≤ 1000000 := by simpa using hl
    have h1 := ih x (hx x (by simp)) (by omega)
    have h2 := size_loop d ih post (pre ++ [x]) (m + szD d x) (fun y hy => hx y (by simp [hy])) (by omega) (by simp; omega)
    refine Evt.succ (p := fun k => (sizeF k x).bind fun t => tree_Size.l0 k (wrap64 ((m : Int) + t)) (pre ++ x :: post) ((pre ++ x :: post).length : Int) (wrap64 ((pre.length : Int) + 1))) (Evt.bind h1 ?_) fun k => ?_
    · have e : ((m + ((x :: post).map (szD d)).sum : Nat) : Int) = ((m + szD d x + (post.map (szD d)).sum : Nat) : Int) := by simp [Nat.add_assoc]
      rw [e]
      refine Evt.congr h2 fun k => ?_
      rw [w64 (by omega) (by omega), w64 (by omega) (by omega)]
      simp
    · rw [tree_Size.l0, if_pos (by simp; omega), if_pos (by omega), if_pos (by simp; omega), show rd_T25 (pre ++ x :: post) (pre.length : Int) = x from rdN_at pre x post _ rfl]
      rfl
theorem size_ev : ∀ (d : Nat) (n : Nd), Deep d n → szD d n ≤ 1000000 → Evt (fun k => sizeF k n) (szD d n : Int)
  | 0, n, h, _ => by
    refine Evt.succ (p := fun k => tree_Size.l0 k 1 ([] : List Nd) 0 0) ?_ fun k => ?_
    · refine Evt.succ (p := fun _ => some (1 : Int)) (Evt.const 1) fun k => ?_
      rw [tree_Size.l0, if_neg (by omega)]
    · show tree_Size.f (k + 1) _ _ _ _ = _
      rw [tree_Size.f, show n.f3 = [] from h]
      rfl
  | d + 1, n, h, hs => by
    have hs' : 1 + (n.f3.map (szD d)).sum ≤ 1000000 := hs
    have hl := szs_le d n.f3
    have := size_loop d (size_ev d) n.f3 [] 1 h (by omega) (by simp; omega)
    exact Evt.succ this fun k => rfl

theorem wipe_mid (pre mid post : List Int) (b : Nat) (h : b = pre.length + mid.length) : wipe (pre ++ mid ++ post) pre.length b = pre ++ List.replicate mid.length 0 ++ post := by
  subst h
  unfold wipe
  have h1 : (pre ++ mid ++ post).take pre.length = pre := by rw [List.append_assoc, List.take_left]
  have h2 : (pre ++ mid ++ post).drop (pre.length + mid.length) = post := by rw [← List.length_append, List.drop_left]
  rw [h1, h2, show pre.length + mid.length - pre.length = mid.length by omega]
theorem forget_ev {d : Nat} {n : Nd} (hd : Deep d n) (hs : szD d n ≤ 1000000) (pre mid post : List Int) (hm : mid.length = szD d n) (hl : (pre ++ mid ++ post).length ≤ 1000000) (a : Int) (ha : a = pre.length) : Evt (fun k => forgetF k n a (pre ++ mid ++ post)) (pre ++ List.replicate mid.length 0 ++ post) := by
  subst ha
  have hp := szD_pos d n
  have hl' : pre.length + mid.length + post.length ≤ 1000000 := by simpa [Nat.add_assoc] using hl
  refine Evt.bind (size_ev d n hd hs) ?_
  refine Evt.congr (Evt.const _) fun k => ?_
  rw [w64 (by omega) (by omega), if_pos ⟨by omega, by omega, by simp; omega⟩, Int.toNat_natCast, wipe_mid pre mid post _ (by omega)]
end Go.Proofs.Ytbpgfjfkogdolaa.TreeEvTreeAsks
