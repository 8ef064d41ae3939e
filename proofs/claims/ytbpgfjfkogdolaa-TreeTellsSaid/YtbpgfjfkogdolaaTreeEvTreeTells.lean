/- A tree's walk in plain words: sizes, what is forgotten. Under no condition but what stands at each. -/
import Derived.Test.YtbpgfjfkogdolaaTreeAnswersTreeTells
namespace Go.Proofs.Ytbpgfjfkogdolaa.TreeEvTreeTells
open Go Go.RowKit Go.Proofs.YtbpgfjfkogdolaaW.PrintWords Go.Proofs.YtbpgfjfkogdolaaW.PrintLast Go.Proofs.YtbpgfjfkogdolaaW.PrintMore Go.Proofs.Ytbpgfjfkogdolaa.PTreeTells Go.Proofs.Ytbpgfjfkogdolaa.Fnv Go.Proofs.Ytbpgfjfkogdolaa.TreePlainTreeTells
set_option linter.unusedVariables false
/-- From some fuel on. -/
def Evt {α : Type} (o : Nat → Option α) (a : α) : Prop := ∃ K, ∀ k, K ≤ k → o k = some a
theorem Evt.const {α : Type} (a : α) : Evt (fun _ => some a) a := ⟨0, fun _ _ => rfl⟩
theorem Evt.succ {α : Type} {o p : Nat → Option α} {a : α} (h : Evt p a) (hs : ∀ k, o (k + 1) = p k) : Evt o a := by
  obtain ⟨K, hK⟩ := h
  refine ⟨K + 1, fun k hk => ?_⟩
  obtain ⟨j, rfl⟩ : ∃ j, k = j + 1 := ⟨k - 1, by omega⟩
  rw [hs]
  exact hK j (by omega)
theorem Evt.bind {α β : Type} {o : Nat → Option α} {f : Nat → α → Option β} {a : α} {b : β} (h : Evt o a) (g : Evt (fun k => f k a) b) : Evt (fun k => (o k).bind (f k)) b := by
  obtain ⟨K, hK⟩ := h
  obtain ⟨L, hL⟩ := g
  refine ⟨K + L, fun k hk => ?_⟩
  show (o k).bind (f k) = some b
  rw [hK k (by omega)]
  exact hL k (by omega)
theorem Evt.congr {α : Type} {o p : Nat → Option α} {a : α} (h : Evt p a) (e : ∀ k, o k = p k) : Evt o a := by
  obtain ⟨K, hK⟩ := h
  exact ⟨K, fun k hk => (e k).trans (hK k hk)⟩

/-- How deep a tree may be. -/
def Deep : Nat → Nd → Prop
  | 0, n => n.f3 = []
  | d + 1, n => ∀ x ∈ n.f3, Deep d x
def szD : Nat → Nd → Nat
  | 0, _ => 1
  | d + 1, n => 1 + (n.f3.map (szD d)).sum
theorem szD_pos (d : Nat) (n : Nd) : 0 < szD d n := by cases d <;> simp [szD]; omega
theorem rdN_at (pre : List Nd) (x : Nd) (post : List Nd) (i : Int) (h : i = pre.length) : rdN (pre ++ x :: post) i = x := by
  subst h
  simp [rdN, rd_T25]
theorem w64 {x : Int} (h0 : -1 ≤ x) (h1 : x ≤ 2000000000) : wrap64 x = x := by unfold wrap64; omega
theorem szs_le (d : Nat) (l : List Nd) : l.length ≤ (l.map (szD d)).sum := by
  induction l with
  | nil => simp
  | cons x l ih => have := szD_pos d x; simp; omega

theorem size_loop (d : Nat) (ih : ∀ n, Deep d n → szD d n ≤ 1000000 → Evt (fun k => sizeF k n) (szD d n : Int)) :
    ∀ (post pre : List Nd) (m : Nat), (∀ x ∈ post, Deep d x) → m + (post.map (szD d)).sum ≤ 1000000 → pre.length + post.length ≤ 1000000 → Evt (fun k => tree_Size.l0 k (m : Int) (pre ++ post) ((pre ++ post).length : Int) (pre.length : Int)) ((m + (post.map (szD d)).sum : Nat) : Int)
  | [], pre, m, _, _, _ => by
    refine Evt.succ (p := fun _ => some (m : Int)) (by simpa using Evt.const (m : Int)) fun k => ?_
    rw [tree_Size.l0, if_neg (by simp)]
  | x :: post, pre, m, hx, hm, hl => by
    have hm' : m + (szD d x + (post.map (szD d)).sum) ≤ 1000000 := by simpa using hm
    have hl' : pre.length + (post.length + 1) ≤ 1000000 := by simpa using hl
    have h1 := ih x (hx x (by simp)) (by omega)
    have h2 := size_loop d ih post (pre ++ [x]) (m + szD d x) (fun y hy => hx y (by simp [hy])) (by omega) (by simp; omega)
    refine Evt.succ (p := fun k => (sizeF k x).bind fun t => tree_Size.l0 k (wrap64 ((m : Int) + t)) (pre ++ x :: post) ((pre ++ x :: post).length : Int) (wrap64 ((pre.length : Int) + 1))) (Evt.bind h1 ?_) fun k => ?_
    · have e : ((m + ((x :: post).map (szD d)).sum : Nat) : Int) = ((m + szD d x + (post.map (szD d)).sum : Nat) : Int) := by simp [Nat.add_assoc]
      rw [e]
      refine Evt.congr h2 fun k => ?_
      rw [w64 (by omega) (by omega), w64 (by omega) (by omega)]
      simp
    · rw [tree_Size.l0, if_pos (by simp; omega), if_pos (by omega), if_pos (by simp; omega), show rd_T25 (pre ++ x :: post) (pre.length : Int) = x from rdN_at pre x post _ rfl]
      rfl
theorem size_ev : ∀ (d : Nat) (n : Nd), Deep d n → szD d n ≤ 1000000 → Evt (fun k => sizeF k n) (szD d n : Int)
  | 0, n, h, _ => by
    refine Evt.succ (p := fun k => tree_Size.l0 k 1 ([] : List Nd) 0 0) ?_ fun k => ?_
    · refine Evt.succ (p := fun _ => some (1 : Int)) (Evt.const 1) fun k => ?_
      rw [tree_Size.l0, if_neg (by omega)]
    · show tree_Size.f (k + 1) _ _ _ _ = _
      rw [tree_Size.f, show n.f3 = [] from h]
      rfl
  | d + 1, n, h, hs => by
    have hs' : 1 + (n.f3.map (szD d)).sum ≤ 1000000 := hs
    have hl := szs_le d n.f3
    have := size_loop d (size_ev d) n.f3 [] 1 h (by omega) (by simp; omega)
    exact Evt.succ this fun k => rfl

theorem wipe_mid (pre mid post : List Int) (b : Nat) (h : b = pre.length + mid.length) : wipe (pre ++ mid ++ post) pre.length b = pre ++ List.replicate mid.length 0 ++ post := by
  subst h
  unfold wipe
  have h1 : (pre ++ mid ++ post).take pre.length = pre := by rw [List.append_assoc, List.take_left]
  have h2 : (pre ++ mid ++ post).drop (pre.length + mid.length) = post := by rw [← List.length_append, List.drop_left]
  rw [h1, h2, show pre.length + mid.length - pre.length = mid.length by omega]
theorem forget_ev {d : Nat} {n : Nd} (hd : Deep d n) (hs : szD d n ≤ 1000000) (pre mid post : List Int) (hm : mid.length = szD d n) (hl : (pre ++ mid ++ post).length ≤ 1000000) (a : Int) (ha : a = pre.length) : Evt (fun k => forgetF k n a (pre ++ mid ++ post)) (pre ++ List.replicate mid.length 0 ++ post) := by
  subst ha
  have hp := szD_pos d n
  have hl' : pre.length + mid.length + post.length ≤ 1000000 := by simpa [Nat.add_assoc] using hl
  refine Evt.bind (size_ev d n hd hs) ?_
  refine Evt.congr (Evt.const _) fun k => ?_
  rw [w64 (by omega) (by omega), if_pos ⟨by omega, by omega, by simp; omega⟩, Int.toNat_natCast, wipe_mid pre mid post _ (by omega)]
end Go.Proofs.Ytbpgfjfkogdolaa.TreeEvTreeTells
/- A tree's walk over the numbers of its own nodes alone, and that the walker's is the same. Under no condition but what stands at each. -/
namespace Go.Proofs.Ytbpgfjfkogdolaa.TreeTTreeTells
open Go Go.RowKit Go.Proofs.YtbpgfjfkogdolaaW.PrintWords Go.Proofs.YtbpgfjfkogdolaaW.PrintLast Go.Proofs.YtbpgfjfkogdolaaW.PrintMore Go.Proofs.Ytbpgfjfkogdolaa.PTreeTells Go.Proofs.Ytbpgfjfkogdolaa.Fnv Go.Proofs.Ytbpgfjfkogdolaa.TreePlainTreeTells Go.Proofs.Ytbpgfjfkogdolaa.TreeEvTreeTells
set_option linter.unusedVariables false
set_option linter.unusedSimpArgs false
def zs (n : Nat) : List Int := List.replicate n 0
def most (n : Nd) : Int := if n.f0 = 3 ∨ n.f0 = 4 then mx (n.f3.length - 1) 0 else if n.f0 = 6 then n.f2 - 1 else 0
def Good2 : Nat → Nd → Prop
  | 0, n => n.f3 = [] ∧ n.f0 ≠ 5 ∧ n.f0 ≠ 6
  | d + 1, n => ((n.f0 = 5 ∨ n.f0 = 6) → n.f3.length = 1) ∧ (n.f0 = 6 → 1 ≤ n.f2 ∧ n.f2 ≤ 1000) ∧ ∀ x ∈ n.f3, Good2 d x
theorem Good2.deep : ∀ (d : Nat) (n : Nd), Good2 d n → Deep d n
  | 0, n, h => h.1
  | d + 1, n, h => fun x hx => Good2.deep d x (h.2.2 x hx)
def fitL (F : Nd → List Int → Prop) (S : Nd → Nat) : List Nd → List Int → Prop
  | [], ν => ν = []
  | x :: l, ν => ∃ α β, ν = α ++ β ∧ α.length = S x ∧ F x α ∧ fitL F S l β
def Fit : Nat → Nd → List Int → Prop
  | 0, n, μ => ∃ h, μ = [h] ∧ 0 ≤ h ∧ h ≤ most n
  | d + 1, n, μ => ∃ h ν, μ = h :: ν ∧ 0 ≤ h ∧ h ≤ most n ∧ fitL (Fit d) (szD d) n.f3 ν
theorem fitL_len {F : Nd → List Int → Prop} {S : Nd → Nat} : ∀ (l : List Nd) (ν : List Int), fitL F S l ν → ν.length = (l.map S).sum
  | [], ν, h => by rw [show ν = [] from h]; rfl
  | x :: l, ν, ⟨α, β, e, h1, _, h2⟩ => by rw [e]; simp [h1, fitL_len l β h2]
theorem Fit.len : ∀ (d : Nat) (n : Nd) (μ : List Int), Fit d n μ → μ.length = szD d n
  | 0, n, μ, ⟨h, e, _⟩ => by rw [e]; rfl
  | d + 1, n, μ, ⟨h, ν, e, _, _, h1⟩ => by rw [e]; simp [szD, fitL_len _ _ h1, Nat.add_comm]
theorem most_nn (d : Nat) (n : Nd) (h : Good2 d n) : 0 ≤ most n := by
  unfold most
  split
  · unfold mx; split <;> omega
  · split
    · rename_i h6
      cases d with
      | zero => exact absurd h6 h.2.2
      | succ d => have := h.2.1 h6; omega
    · omega
theorem fitL_zs {F : Nd → List Int → Prop} {S : Nd → Nat} : ∀ (l : List Nd), (∀ x ∈ l, F x (zs (S x))) → fitL F S l (zs (l.map S).sum)
  | [], _ => rfl
  | x :: l, h => ⟨zs (S x), zs (l.map S).sum, by simp only [zs, List.map_cons, List.sum_cons, List.replicate_append_replicate], by simp [zs], h x (by simp), fitL_zs l (fun y hy => h y (by simp [hy]))⟩
theorem Fit.zeros : ∀ (d : Nat) (n : Nd), Good2 d n → Fit d n (zs (szD d n))
  | 0, n, h => ⟨0, rfl, by omega, most_nn 0 n h⟩
  | d + 1, n, h => ⟨0, zs (n.f3.map (szD d)).sum, by show List.replicate (1 + _) _ = _; rw [Nat.add_comm]; rfl, by omega, most_nn (d + 1) n h, fitL_zs n.f3 fun x hx => Fit.zeros d x (h.2.2 x hx)⟩
section
variable {σ : Type} (an : σ → ByteArray → Int × σ)
def kidsL (T : Nd → List Int → σ → Int × List Int × σ) (S : Nd → Nat) (kind first : Int) (total : Nat) : Int → List Nd → List Int → Nat → σ → Int × List Int × σ
  | i, [], ν, nb, s => (onV kind, zs total, s)
  | i, x :: rest, ν, nb, s =>
    if i ≥ first then
      if (T x (ν.take (S x)) s).1 = 2 then (2, (if kind = 3 ∨ kind = 4 then i else 0) :: (zs nb ++ (T x (ν.take (S x)) s).2.1 ++ zs (rest.map S).sum), (T x (ν.take (S x)) s).2.2)
      else if (T x (ν.take (S x)) s).1 = onV kind then kidsL T S kind first total (i + 1) rest (ν.drop (S x)) (nb + S x) (T x (ν.take (S x)) s).2.2
      else ((T x (ν.take (S x)) s).1, zs total, (T x (ν.take (S x)) s).2.2)
    else kidsL T S kind first total (i + 1) rest (ν.drop (S x)) (nb + S x) s
def nodeT (T : Nd → List Int → σ → Int × List Int × σ) (S : Nd → Nat) (n : Nd) (μ : List Int) (s : σ) : Int × List Int × σ :=
  if n.f0 = 1 ∨ n.f0 = 2 then (leafV n.f0 (an s n.f1).1, μ, (an s n.f1).2)
  else if n.f0 = 5 then (if (T (rdN n.f3 0) μ.tail s).1 = 2 then 2 else 1 - (T (rdN n.f3 0) μ.tail s).1, μ.headD 0 :: (T (rdN n.f3 0) μ.tail s).2.1, (T (rdN n.f3 0) μ.tail s).2.2)
  else if n.f0 = 6 then
    if (T (rdN n.f3 0) μ.tail s).1 = 2 then (2, μ.headD 0 :: (T (rdN n.f3 0) μ.tail s).2.1, (T (rdN n.f3 0) μ.tail s).2.2)
    else if (T (rdN n.f3 0) μ.tail s).1 = 1 ∧ μ.headD 0 + 1 < n.f2 then (2, (μ.headD 0 + 1) :: zs μ.tail.length, (T (rdN n.f3 0) μ.tail s).2.2)
    else ((T (rdN n.f3 0) μ.tail s).1, zs μ.length, (T (rdN n.f3 0) μ.tail s).2.2)
  else kidsL T S n.f0 (μ.headD 0) μ.length 0 n.f3 μ.tail 0 s
def T : Nat → Nd → List Int → σ → Int × List Int × σ
  | 0 => nodeT an (fun _ μ s => (0, μ, s)) (fun _ => 1)
  | d + 1 => nodeT an (T d) (szD d)
theorem leafV_res (k r : Int) : leafV k r = 0 ∨ leafV k r = 1 ∨ leafV k r = 2 := by
  unfold leafV
  split <;> omega
theorem onV_res (k : Int) : onV k = 0 ∨ onV k = 1 := by unfold onV; split <;> omega
theorem kidsL_res {T : Nd → List Int → σ → Int × List Int × σ} {S : Nd → Nat} {kind first : Int} {total : Nat} : ∀ (l : List Nd) (i : Int) (ν : List Int) (nb : Nat) (s : σ), (∀ x ∈ l, ∀ μ s, (T x μ s).1 = 0 ∨ (T x μ s).1 = 1 ∨ (T x μ s).1 = 2) →
    ((kidsL T S kind first total i l ν nb s).1 = 0 ∨ (kidsL T S kind first total i l ν nb s).1 = 1 ∨ (kidsL T S kind first total i l ν nb s).1 = 2)
  | [], i, ν, nb, s, h => by
    have := onV_res kind
    simp only [kidsL]
    omega
  | x :: l, i, ν, nb, s, h => by
    have h1 := h x (by simp) (ν.take (S x)) s
    rw [kidsL]
    split
    · split
      · exact .inr (.inr rfl)
      · split
        · exact kidsL_res l _ _ _ _ (fun y hy => h y (by simp [hy]))
        · exact h1
    · exact kidsL_res l _ _ _ _ (fun y hy => h y (by simp [hy]))
theorem T_res : ∀ (d : Nat) (n : Nd), Good2 d n → ∀ (μ : List Int) (s : σ), (T an d n μ s).1 = 0 ∨ (T an d n μ s).1 = 1 ∨ (T an d n μ s).1 = 2
  | 0, n, h, μ, s => by
    unfold T nodeT
    split
    · exact leafV_res _ _
    · rw [if_neg h.2.1, if_neg h.2.2, h.1]
      exact kidsL_res [] _ _ _ _ (by simp)
  | d + 1, n, h, μ, s => by
    unfold T nodeT
    have hk : (n.f0 = 5 ∨ n.f0 = 6) → ∀ μ s, (T an d (rdN n.f3 0) μ s).1 = 0 ∨ (T an d (rdN n.f3 0) μ s).1 = 1 ∨ (T an d (rdN n.f3 0) μ s).1 = 2 := by
      intro h5 μ s
      have hl := h.1 h5
      match hf : n.f3, hl with
      | [x], _ => exact T_res d x (h.2.2 x (by simp [hf])) μ s
    split
    · exact leafV_res _ _
    · split
      · have := hk (.inl (by assumption)) μ.tail s
        dsimp only
        split <;> omega
      · split
        · have := hk (.inr (by assumption)) μ.tail s
          split
          · exact .inr (.inr rfl)
          · split
            · exact .inr (.inr rfl)
            · exact this
        · exact kidsL_res _ _ _ _ _ (fun x hx μ s => T_res d x (h.2.2 x hx) μ s)
theorem fitL_app {F : Nd → List Int → Prop} {S : Nd → Nat} : ∀ (l1 l2 : List Nd) (ν1 ν2 : List Int), fitL F S l1 ν1 → fitL F S l2 ν2 → fitL F S (l1 ++ l2) (ν1 ++ ν2)
  | [], l2, ν1, ν2, h1, h2 => by rw [show ν1 = [] from h1]; exact h2
  | x :: l1, l2, ν1, ν2, ⟨α, β, e, h3, h4, h5⟩, h2 => ⟨α, β ++ ν2, by rw [e, List.append_assoc], h3, h4, fitL_app l1 l2 β ν2 h5 h2⟩
theorem kidsL_fit {F : Nd → List Int → Prop} {T : Nd → List Int → σ → Int × List Int × σ} {S : Nd → Nat} {n : Nd} {first : Int} (hm : 0 ≤ most n) (hT : ∀ x ∈ n.f3, ∀ μ s, F x μ → F x (T x μ s).2.1) (hz : ∀ x ∈ n.f3, F x (zs (S x))) (hL : ∀ x ∈ n.f3, ∀ μ, F x μ → μ.length = S x) :
    ∀ (l pre : List Nd) (i : Int) (ν : List Int) (nb : Nat) (s : σ), n.f3 = pre ++ l → i = pre.length → nb = (pre.map S).sum → fitL F S l ν →
      ∃ h' ν', (kidsL T S n.f0 first (1 + (n.f3.map S).sum) i l ν nb s).2.1 = h' :: ν' ∧ 0 ≤ h' ∧ h' ≤ most n ∧ fitL F S n.f3 ν'
  | [], pre, i, ν, nb, s, hl, hi, hn, hf => ⟨0, zs (n.f3.map S).sum, by show zs (1 + _) = _; rw [Nat.add_comm]; rfl, by omega, hm, fitL_zs _ hz⟩
  | x :: l, pre, i, ν, nb, s, hl, hi, hn, ⟨α, β, e, h3, h4, h5⟩ => by
    have e1 : ν.take (S x) = α := by rw [e, ← h3, List.take_left]
    have e2 : ν.drop (S x) = β := by rw [e, ← h3, List.drop_left]
    have hx : x ∈ n.f3 := by rw [hl]; simp
    have hz0 : ∃ h' ν', zs (1 + (n.f3.map S).sum) = h' :: ν' ∧ 0 ≤ h' ∧ h' ≤ most n ∧ fitL F S n.f3 ν' := ⟨0, zs (n.f3.map S).sum, by show zs (1 + _) = _; rw [Nat.add_comm]; rfl, by omega, hm, fitL_zs _ hz⟩
    have hgo : ∀ s, ∃ h' ν', (kidsL T S n.f0 first (1 + (n.f3.map S).sum) (i + 1) l β (nb + S x) s).2.1 = h' :: ν' ∧ 0 ≤ h' ∧ h' ≤ most n ∧ fitL F S n.f3 ν' := fun s =>
      kidsL_fit hm hT hz hL l (pre ++ [x]) (i + 1) β (nb + S x) s (by rw [hl]; simp) (by simp; omega) (by simp [hn]) h5
    rw [kidsL, e1, e2]
    split
    · split
      · refine ⟨_, _, rfl, ?_, ?_, ?_⟩
        · split <;> omega
        · split
          · rename_i h34
            unfold most
            rw [if_pos h34, hl]
            unfold mx
            have := congrArg List.length hl
            simp
            split <;> omega
          · exact hm
        · rw [hl, hn]
          rw [List.append_assoc]
          exact fitL_app _ _ _ _ (fitL_zs pre fun y hy => hz y (by rw [hl]; simp [hy])) ⟨_, _, rfl, hL x hx _ (hT x hx _ _ h4), hT x hx _ _ h4, fitL_zs l fun y hy => hz y (by rw [hl]; simp [hy])⟩
      · split
        · exact hgo _
        · exact hz0
    · exact hgo _
theorem fitL_one {F : Nd → List Int → Prop} {S : Nd → Nat} {x : Nd} {ν : List Int} (h : fitL F S [x] ν) : F x ν ∧ ν.length = S x := by
  obtain ⟨α, β, e, h1, h2, h3⟩ := h
  rw [show β = [] from h3, List.append_nil] at e
  exact ⟨e ▸ h2, e ▸ h1⟩
theorem one_fitL {F : Nd → List Int → Prop} {S : Nd → Nat} {x : Nd} {ν : List Int} (h : F x ν) (hl : ν.length = S x) : fitL F S [x] ν := ⟨ν, [], by simp, hl, h, rfl⟩
theorem T_fit : ∀ (d : Nat) (n : Nd), Good2 d n → ∀ (μ : List Int) (s : σ), Fit d n μ → Fit d n (T an d n μ s).2.1
  | 0, n, h, μ, s, hf => by
    have h0 := most_nn 0 n h
    unfold T nodeT
    split
    · exact hf
    · rw [if_neg h.2.1, if_neg h.2.2, h.1]
      refine ⟨0, ?_, by omega, h0⟩
      obtain ⟨a, rfl, _⟩ := hf
      rfl
  | d + 1, n, h, μ, s, hf => by
    have h0 := most_nn (d + 1) n h
    have hf' := hf
    have hlen := Fit.len (d + 1) n μ hf
    obtain ⟨a, ν, rfl, ha0, ha1, hν⟩ := hf'
    have hL : ∀ x ∈ n.f3, ∀ μ, Fit d x μ → μ.length = szD d x := fun x _ μ => Fit.len d x μ
    have hz : ∀ x ∈ n.f3, Fit d x (zs (szD d x)) := fun x hx => Fit.zeros d x (h.2.2 x hx)
    have hT : ∀ x ∈ n.f3, ∀ μ s, Fit d x μ → Fit d x (T an d x μ s).2.1 := fun x hx μ s => T_fit d x (h.2.2 x hx) μ s
    unfold T nodeT
    split
    · exact hf
    · split
      · have hl := h.1 (.inl (by assumption))
        match hn : n.f3, hl with
        | [x], _ =>
          have hx : x ∈ n.f3 := by simp [hn]
          rw [hn] at hν
          have hν := fitL_one hν
          refine ⟨a, _, rfl, ha0, ha1, ?_⟩
          rw [hn]
          exact one_fitL (hT x hx _ _ hν.1) (hL x hx _ (hT x hx _ _ hν.1))
      · split
        · rename_i h6
          have hl := h.1 (.inr h6)
          match hn : n.f3, hl with
          | [x], _ =>
            have hx : x ∈ n.f3 := by simp [hn]
            rw [hn] at hν
            have hν := fitL_one hν
            split
            · refine ⟨a, _, rfl, ha0, ha1, ?_⟩
              rw [hn]
              exact one_fitL (hT x hx _ _ hν.1) (hL x hx _ (hT x hx _ _ hν.1))
            · split
              · rename_i h7
                have h8 : a + 1 < n.f2 := h7.2
                refine ⟨a + 1, _, rfl, by omega, ?_, ?_⟩
                · unfold most
                  rw [if_neg (by omega), if_pos h6]
                  omega
                · rw [hn, show (a :: ν).tail = ν from rfl, hν.2]
                  exact one_fitL (hz x hx) (by simp [zs])
              · show Fit (d + 1) n (zs (a :: ν).length)
                rw [hlen]
                exact Fit.zeros (d + 1) n h
        · obtain ⟨h', ν', e, h1, h2, h3⟩ := kidsL_fit (first := a) h0 hT hz hL n.f3 [] 0 ν 0 s rfl rfl rfl hν
          rw [hlen]
          exact ⟨h', ν', e, h1, h2, h3⟩
end
end Go.Proofs.Ytbpgfjfkogdolaa.TreeTTreeTells
/- The walker's tick is the plain walk. Under the conditions that stand at it. -/
namespace Go.Proofs.Ytbpgfjfkogdolaa.TreeSameTreeTells
open Go Go.RowKit Go.Proofs.YtbpgfjfkogdolaaW.PrintWords Go.Proofs.YtbpgfjfkogdolaaW.PrintLast Go.Proofs.YtbpgfjfkogdolaaW.PrintMore Go.Proofs.Ytbpgfjfkogdolaa.PTreeTells Go.Proofs.Ytbpgfjfkogdolaa.Fnv Go.Proofs.Ytbpgfjfkogdolaa.TreePlainTreeTells Go.Proofs.Ytbpgfjfkogdolaa.TreeEvTreeTells Go.Proofs.Ytbpgfjfkogdolaa.TreeTTreeTells
set_option linter.unusedVariables false
set_option linter.unusedSimpArgs false
theorem forget2 {n : Nd} {Z : Nat} (hn : Evt (fun k => sizeF k n) (Z : Int)) (hp : 0 < Z) (pre mid post : List Int) (hm : mid.length = Z) (hl : pre.length + mid.length + post.length ≤ 1000000) (a : Int) (ha : a = pre.length) : Evt (fun k => forgetF k n a (pre ++ mid ++ post)) (pre ++ zs Z ++ post) := by
  subst ha
  refine Evt.bind hn ?_
  refine Evt.congr (Evt.const _) fun k => ?_
  rw [w64 (by omega) (by omega), if_pos ⟨by omega, by omega, by simp; omega⟩, Int.toNat_natCast, wipe_mid pre mid post _ (by omega), hm]
  rfl
theorem laid_mid (pre a b c κ post : List Int) (i : Nat) (hi : i = pre.length + a.length) (hκ : κ.length = b.length) : laid (pre ++ (a ++ b ++ c) ++ post) i κ = pre ++ (a ++ κ ++ c) ++ post := by
  subst hi
  unfold laid
  have h1 : (pre ++ (a ++ b ++ c) ++ post).take (pre.length + a.length) = pre ++ a := by
    rw [show pre ++ (a ++ b ++ c) ++ post = (pre ++ a) ++ (b ++ c ++ post) by simp, ← List.length_append, List.take_left]
  have h2 : (pre ++ (a ++ b ++ c) ++ post).drop (pre.length + a.length + κ.length) = c ++ post := by
    rw [show pre ++ (a ++ b ++ c) ++ post = (pre ++ a ++ b) ++ (c ++ post) by simp, hκ, show pre.length + a.length + b.length = (pre ++ a ++ b).length by simp [Nat.add_assoc], List.drop_left]
  rw [h1, h2]
  simp
theorem part_mid (pre a b c post : List Int) (i n : Nat) (hi : i = pre.length + a.length) (hn : n = b.length) : ((pre ++ (a ++ b ++ c) ++ post).drop i).take n = b := by
  subst hi hn
  rw [show pre ++ (a ++ b ++ c) ++ post = (pre ++ a) ++ (b ++ (c ++ post)) by simp, ← List.length_append, List.drop_left, List.take_left]
theorem set_mid (pre : List Int) (h : Int) (ν post : List Int) (i : Nat) (hi : i = pre.length) (v : Int) : (pre ++ (h :: ν) ++ post).set i v = pre ++ (v :: ν) ++ post := by
  subst hi
  rw [List.append_assoc, List.set_append_right _ _ (Nat.le_refl _), List.append_assoc]
  simp
theorem rd_mid (pre : List Int) (h : Int) (ν post : List Int) (i : Int) (hi : i = pre.length) : rd (pre ++ (h :: ν) ++ post) i = h := by
  subst hi
  simp [rd, List.getD]

section
variable {σ : Type} (an : σ → ByteArray → Int × σ)
/-- What tick does at a node with these numbers. -/
def Ticks (F : Nd → List Int → Prop) (Tk : Nd → List Int → σ → Int × List Int × σ) (x : Nd) : Prop :=
  ∀ (μ : List Int), F x μ → ∀ (pre post : List Int) (a : Int) (s : σ), a = pre.length → pre.length + μ.length + post.length ≤ 1000000 →
    Evt (fun k => tickF an k x a (pre ++ μ ++ post) s) ((Tk x μ s).1, pre ++ (Tk x μ s).2.1 ++ post, (Tk x μ s).2.2)

theorem loop_ev {F : Nd → List Int → Prop} {Tk : Nd → List Int → σ → Int × List Int × σ} {S : Nd → Nat} {n : Nd} {first : Int} (ht : ∀ x ∈ n.f3, Ticks an F Tk x) (hS : ∀ x ∈ n.f3, Evt (fun k => sizeF k x) (S x : Int) ∧ 0 < S x) (hn : Evt (fun k => sizeF k n) ((1 + (n.f3.map S).sum : Nat) : Int))
    (hF : ∀ x ∈ n.f3, ∀ μ, F x μ → μ.length = S x) (hT : ∀ x ∈ n.f3, ∀ μ s, F x μ → F x (Tk x μ s).2.1) :
    ∀ (l doneK : List Nd) (pre post done ν : List Int) (h : Int) (a fr i : Int) (s : σ), n.f3 = doneK ++ l → done.length = (doneK.map S).sum → fitL F S l ν → a = pre.length → fr = pre.length + 1 + done.length → i = doneK.length → pre.length + (1 + (n.f3.map S).sum) + post.length ≤ 1000000 →
      n.f3.length ≤ 1000000 → Evt (fun k => loopF an k n a first fr i (pre ++ (h :: (done ++ ν)) ++ post) s)
        ((kidsL Tk S n.f0 first (1 + (n.f3.map S).sum) i l ν done.length s).1, pre ++ (kidsL Tk S n.f0 first (1 + (n.f3.map S).sum) i l ν done.length s).2.1 ++ post, (kidsL Tk S n.f0 first (1 + (n.f3.map S).sum) i l ν done.length s).2.2)
  | [], doneK, pre, post, done, ν, h, a, fr, i, s, hl, hd, hν, ha, hfr, hi, hb, hk => by
    obtain rfl : ν = [] := hν
    have e1 : n.f3 = doneK := by rw [hl, List.append_nil]
    refine Evt.succ (p := fun k => (forgetF k n a (pre ++ (h :: (done ++ [])) ++ post)).bind fun m2 => some (onV n.f0, m2, s)) (Evt.bind (forget2 hn (by omega) pre (h :: (done ++ [])) post (by simp [hd, e1]; omega) (by simp [hd, e1] at hb ⊢; omega) a ha) (Evt.const _)) fun k => ?_
    rw [loopF, if_neg (by rw [hi, e1]; omega)]
  | x :: l, doneK, pre, post, done, ν, h, a, fr, i, s, hl, hd, ⟨α, β, e, h3, h4, h5⟩, ha, hfr, hi, hb, hk => by
    have hx : x ∈ n.f3 := by rw [hl]; simp
    have e1 : ν.take (S x) = α := by rw [e, ← h3, List.take_left]
    have e2 : ν.drop (S x) = β := by rw [e, ← h3, List.drop_left]
    have hsum : (n.f3.map S).sum = done.length + (S x + (l.map S).sum) := by rw [hl, hd]; simp
    have hβ := fitL_len l β h5
    have hlenk := congrArg List.length hl
    simp only [List.length_append, List.length_cons] at hlenk
    have hx0 : rdN n.f3 i = x := by rw [hl]; exact rdN_at doneK x l i hi
    obtain ⟨hSx, hSp⟩ := hS x hx
    have hgo : ∀ (α' : List Int) (s : σ), F x α' → Evt (fun k => loopF an k n a first (wrap64 (fr + (S x : Int))) (wrap64 (i + 1)) (pre ++ (h :: (done ++ (α' ++ β))) ++ post) s)
        ((kidsL Tk S n.f0 first (1 + (n.f3.map S).sum) (i + 1) l β (done.length + S x) s).1, pre ++ (kidsL Tk S n.f0 first (1 + (n.f3.map S).sum) (i + 1) l β (done.length + S x) s).2.1 ++ post, (kidsL Tk S n.f0 first (1 + (n.f3.map S).sum) (i + 1) l β (done.length + S x) s).2.2) := by
      intro α' s hα
      have hl' := hF x hx α' hα
      have := loop_ev (first := first) ht hS hn hF hT l (doneK ++ [x]) pre post (done ++ α') β h a (wrap64 (fr + (S x : Int))) (wrap64 (i + 1)) s (by rw [hl]; simp) (by simp [hd, hl']) h5 ha (by rw [w64 (by omega) (by omega)]; simp; omega) (by rw [w64 (by omega) (by omega)]; simp; omega) hb hk
      rw [show wrap64 (i + 1) = i + 1 from w64 (by omega) (by omega), List.length_append, hl', show done ++ α' ++ β = done ++ (α' ++ β) by simp] at this
      rw [show wrap64 (i + 1) = i + 1 from w64 (by omega) (by omega)]
      exact this
    refine Evt.succ (p := fun k => (sizeF k x).bind fun z =>
        if i ≥ first then (tickF an k x fr (pre ++ (h :: (done ++ ν)) ++ post) s).bind fun x =>
          if x.1 = 2 then
            if 0 ≤ fr ∧ fr < wrap64 (fr + z) ∧ wrap64 (fr + z) ≤ x.2.1.length then (forgetF k n a x.2.1).bind fun m2 =>
              if n.f0 = 3 ∨ n.f0 = 4 then some (2, (laid m2 fr.toNat ((x.2.1.drop fr.toNat).take (wrap64 (fr + z) - fr).toNat)).set a.toNat i, x.2.2)
              else some (2, laid m2 fr.toNat ((x.2.1.drop fr.toNat).take (wrap64 (fr + z) - fr).toNat), x.2.2)
            else none
          else if x.1 = onV n.f0 then loopF an k n a first (wrap64 (fr + z)) (wrap64 (i + 1)) x.2.1 x.2.2
          else (forgetF k n a x.2.1).bind fun m2 => some (x.1, m2, x.2.2)
        else loopF an k n a first (wrap64 (fr + z)) (wrap64 (i + 1)) (pre ++ (h :: (done ++ ν)) ++ post) s) (Evt.bind hSx ?_) fun k => ?_
    · rw [kidsL, e1, e2]
      by_cases hfi : i ≥ first
      · rw [if_pos hfi]
        have hα := hF x hx _ (hT x hx α s h4)
        have htick := ht x hx α h4 (pre ++ (h :: done)) (β ++ post) fr s (by simp; omega) (by simp; omega)
        rw [show pre ++ (h :: done) ++ α ++ (β ++ post) = pre ++ (h :: (done ++ ν)) ++ post by rw [e]; simp, show ∀ q, pre ++ (h :: done) ++ q ++ (β ++ post) = pre ++ (h :: (done ++ (q ++ β))) ++ post from fun q => by simp] at htick
        obtain ⟨r, α', s', hr⟩ : ∃ r α' s', Tk x α s = (r, α', s') := ⟨_, _, _, rfl⟩
        have hFα := hT x hx α s h4
        rw [hr] at htick hα hFα ⊢
        dsimp only at htick hα hFα ⊢
        refine Evt.congr (p := fun k => (tickF an k x fr (pre ++ (h :: (done ++ ν)) ++ post) s).bind _) (Evt.bind htick ?_) (fun k => if_pos hfi)
        dsimp only
        have hfor := forget2 hn (by omega) pre (h :: (done ++ (α' ++ β))) post (by simp; omega) (by simp; omega) a ha
        have hw : wrap64 (fr + (S x : Int)) = ((pre.length + (1 + done.length) + S x : Nat) : Int) := by rw [w64 (by omega) (by omega)]; omega
        by_cases h2 : r = 2
        · rw [if_pos h2]
          refine Evt.congr (p := fun k => (forgetF k n a (pre ++ (h :: (done ++ (α' ++ β))) ++ post)).bind _) (Evt.bind hfor ?_) (fun k => by rw [if_pos h2, if_pos ⟨by omega, by omega, by rw [hw]; simp; omega⟩])
          have hfn : fr.toNat = pre.length + (h :: done).length := by simp; omega
          have hp := part_mid pre (h :: done) α' β post fr.toNat (wrap64 (fr + (S x : Int)) - fr).toNat hfn (by omega)
          rw [show pre ++ (h :: done ++ α' ++ β) ++ post = pre ++ (h :: (done ++ (α' ++ β))) ++ post by simp] at hp
          rw [hp]
          have hz : pre ++ zs (1 + (n.f3.map S).sum) ++ post = pre ++ ((0 :: zs done.length) ++ zs α'.length ++ zs β.length) ++ post := by
            rw [hsum, hα, hβ]
            unfold zs
            rw [show (0 : Int) :: List.replicate done.length 0 = List.replicate (1 + done.length) 0 by rw [Nat.add_comm]; rfl]
            simp only [List.replicate_append_replicate, Nat.add_assoc]
          have hlaid := laid_mid pre (0 :: zs done.length) (zs α'.length) (zs β.length) α' post fr.toNat (by simp [zs]; omega) (by simp [zs])
          rw [hz, hlaid]
          have hfin : ∀ v, pre ++ (v :: zs done.length ++ α' ++ zs β.length) ++ post = pre ++ (v :: (zs done.length ++ α' ++ zs (l.map S).sum)) ++ post := fun v => by rw [hβ]; simp
          by_cases h34 : n.f0 = 3 ∨ n.f0 = 4
          · refine Evt.congr (Evt.const _) fun k => ?_
            rw [if_pos h34, if_pos h34, show pre ++ (0 :: zs done.length ++ α' ++ zs β.length) ++ post = pre ++ (0 :: (zs done.length ++ α' ++ zs (l.map S).sum)) ++ post from hfin 0, set_mid pre 0 _ post a.toNat (by omega)]
          · refine Evt.congr (Evt.const _) fun k => ?_
            rw [if_neg h34, if_neg h34, hfin 0]
        · rw [if_neg h2]
          by_cases ho : r = onV n.f0
          · rw [if_pos ho]
            exact Evt.congr (hgo α' s' hFα) fun k => by rw [if_neg h2, if_pos ho]
          · rw [if_neg ho]
            refine Evt.congr (Evt.bind hfor (Evt.const _)) fun k => by rw [if_neg h2, if_neg ho]
      · rw [if_neg hfi]
        rw [e]
        exact Evt.congr (hgo α s h4) fun k => if_neg hfi
    · rw [loopF, if_pos (by omega), if_pos (by omega), hx0]
/-- A node, over what its kids do. -/
theorem node_ev {F G : Nd → List Int → Prop} {Tk : Nd → List Int → σ → Int × List Int × σ} {S : Nd → Nat} {n : Nd} (ht : ∀ x ∈ n.f3, Ticks an F Tk x) (hS : ∀ x ∈ n.f3, Evt (fun k => sizeF k x) (S x : Int) ∧ 0 < S x) (hn : Evt (fun k => sizeF k n) ((1 + (n.f3.map S).sum : Nat) : Int))
    (hF : ∀ x ∈ n.f3, ∀ μ, F x μ → μ.length = S x) (hT : ∀ x ∈ n.f3, ∀ μ s, F x μ → F x (Tk x μ s).2.1) (hr : ∀ x ∈ n.f3, ∀ μ s, (Tk x μ s).1 = 0 ∨ (Tk x μ s).1 = 1 ∨ (Tk x μ s).1 = 2)
    (h1 : (n.f0 = 5 ∨ n.f0 = 6) → n.f3.length = 1) (h6 : n.f0 = 6 → n.f2 ≤ 1000) (hk : n.f3.length ≤ 1000000)
    (hG : ∀ μ, G n μ → ∃ h ν, μ = h :: ν ∧ 0 ≤ h ∧ h ≤ most n ∧ fitL F S n.f3 ν) : Ticks an G (nodeT an Tk S) n := by
  intro μ hμ pre post a s ha hb
  obtain ⟨h, ν, rfl, hh0, hh1, hν⟩ := hG μ hμ
  have hνl := fitL_len _ _ hν
  simp only [List.length_cons] at hb
  unfold nodeT
  by_cases c1 : n.f0 = 1 ∨ n.f0 = 2
  · rw [if_pos c1]
    refine Evt.succ (Evt.const _) fun k => ?_
    rw [tickF, if_pos c1]
  · rw [if_neg c1]
    by_cases c5 : n.f0 = 5
    · rw [if_pos c5]
      have hl := h1 (.inl c5)
      match hn3 : n.f3, hl with
      | [x], _ =>
        have hx : x ∈ n.f3 := by simp [hn3]
        rw [hn3] at hν
        obtain ⟨hFx, hlx⟩ := fitL_one hν
        have htk := ht x hx ν hFx (pre ++ [h]) post (wrap64 (a + 1)) s (by rw [w64 (by omega) (by omega)]; simp; omega) (by simp; omega)
        have hrr := hr x hx ν s
        rw [show rdN [x] 0 = x from rfl, show (h :: ν).tail = ν from rfl, show (h :: ν).headD 0 = h from rfl]
        rw [show pre ++ [h] ++ ν ++ post = pre ++ (h :: ν) ++ post by simp, show ∀ q : List Int, pre ++ [h] ++ q ++ post = pre ++ (h :: q) ++ post from fun q => by simp] at htk
        refine Evt.succ (p := fun k => (tickF an k x (wrap64 (a + 1)) (pre ++ (h :: ν) ++ post) s).bind fun x => if x.1 = 2 then some (2, x.2.1, x.2.2) else some (wrap64 (1 - x.1), x.2.1, x.2.2)) (Evt.bind htk (Evt.congr (Evt.const _) fun k => ?_)) fun k => ?_
        · by_cases c2 : (Tk x ν s).1 = 2
          · rw [if_pos c2, if_pos c2]
          · rw [if_neg c2, if_neg c2, show wrap64 (1 - (Tk x ν s).1) = 1 - (Tk x ν s).1 from w64 (by omega) (by omega)]
        · rw [tickF, if_neg c1, if_pos c5, hn3, if_pos (by simp)]
          rfl
    · rw [if_neg c5]
      by_cases c6 : n.f0 = 6
      · rw [if_pos c6]
        have hl := h1 (.inr c6)
        have h62 := h6 c6
        have hmost : most n = n.f2 - 1 := by unfold most; rw [if_neg (by omega), if_pos c6]
        match hn3 : n.f3, hl with
        | [x], _ =>
          have hx : x ∈ n.f3 := by simp [hn3]
          rw [hn3] at hν
          obtain ⟨hFx, hlx⟩ := fitL_one hν
          have htk := ht x hx ν hFx (pre ++ [h]) post (wrap64 (a + 1)) s (by rw [w64 (by omega) (by omega)]; simp; omega) (by simp; omega)
          rw [show rdN [x] 0 = x from rfl, show (h :: ν).tail = ν from rfl, show (h :: ν).headD 0 = h from rfl]
          rw [show pre ++ [h] ++ ν ++ post = pre ++ (h :: ν) ++ post by simp, show ∀ q : List Int, pre ++ [h] ++ q ++ post = pre ++ (h :: q) ++ post from fun q => by simp] at htk
          have hFt := hT x hx ν s hFx
          have hlt := hF x hx _ hFt
          have hsum : 1 + (n.f3.map S).sum = 1 + S x := by simp [hn3]
          rw [hsum] at hn
          obtain ⟨r, α', s', hy⟩ : ∃ r α' s', Tk x ν s = (r, α', s') := ⟨_, _, _, rfl⟩
          rw [hy] at htk hlt ⊢
          dsimp only at htk hlt ⊢
          have hfor := forget2 hn (by omega) pre (h :: α') post (by simp; omega) (by simp; omega) a ha
          have hrd : rd (pre ++ (h :: α') ++ post) a = h := rd_mid pre h α' post a ha
          have hw : wrap64 (h + 1) = h + 1 := w64 (by omega) (by omega)
          refine Evt.succ (p := fun k => againF an k n a (pre ++ (h :: ν) ++ post) s) (Evt.succ (p := fun k => (tickF an k x (wrap64 (a + 1)) (pre ++ (h :: ν) ++ post) s).bind fun x =>
            if x.1 = 2 then some (2, x.2.1, x.2.2)
            else if 0 ≤ a ∧ a < x.2.1.length then (forgetF k n a x.2.1).bind fun m2 =>
              if x.1 = 1 ∧ wrap64 (rd x.2.1 a + 1) < n.f2 then some (2, m2.set a.toNat (wrap64 (rd x.2.1 a + 1)), x.2.2) else some (x.1, m2, x.2.2)
            else none) (Evt.bind htk ?_) fun k => ?_) fun k => ?_
          · dsimp only
            by_cases c2 : r = 2
            · rw [if_pos c2]
              exact Evt.congr (Evt.const _) fun k => by rw [if_pos c2]
            · rw [if_neg c2]
              refine Evt.congr (p := fun k => (forgetF k n a (pre ++ (h :: α') ++ post)).bind _) (Evt.bind hfor ?_) fun k => by rw [if_neg c2, if_pos ⟨by omega, by simp; omega⟩]
              rw [hrd, hw]
              by_cases c3 : r = 1 ∧ h + 1 < n.f2
              · rw [if_pos c3]
                refine Evt.congr (Evt.const _) fun k => ?_
                rw [if_pos c3, show zs (1 + S x) = 0 :: zs (S x) by rw [Nat.add_comm]; rfl, set_mid pre 0 _ post a.toNat (by omega), hlx]
              · rw [if_neg c3]
                refine Evt.congr (Evt.const _) fun k => ?_
                rw [if_neg c3, show (h :: ν).length = 1 + S x by simp; omega]
          · rw [againF, hn3, if_pos (by simp)]
            rfl
          · rw [tickF, if_neg c1, if_neg c5, if_pos c6]
      · rw [if_neg c6]
        have hloop := loop_ev an (first := h) ht hS hn hF hT n.f3 [] pre post [] ν h a (wrap64 (a + 1)) 0 s rfl rfl hν ha (by rw [w64 (by omega) (by omega)]; simp; omega) rfl (by omega) hk
        rw [show (h :: ν).headD 0 = h from rfl, show (h :: ν).tail = ν from rfl, show (h :: ν).length = 1 + (n.f3.map S).sum by simp; omega]
        refine Evt.succ (p := fun k => listF an k n a (pre ++ (h :: ν) ++ post) s) (Evt.succ hloop fun k => ?_) fun k => ?_
        · rw [listF, if_pos ⟨by omega, by simp; omega⟩, rd_mid pre h ν post a ha]
          rfl
        · rw [tickF, if_neg c1, if_neg c5, if_neg c6]

theorem mem_sum {l : List Nat} {x : Nat} (h : x ∈ l) : x ≤ l.sum := by
  induction l with
  | nil => cases h
  | cons y l ih =>
    rcases List.mem_cons.mp h with rfl | h
    · simp
    · have := ih h
      simp
      omega
theorem tick_same : ∀ (d : Nat) (n : Nd), Good2 d n → szD d n ≤ 1000000 → Ticks an (Fit d) (T an d) n
  | 0, n, hg, hz => by
    have e : n.f3 = [] := hg.1
    exact node_ev an (F := fun _ _ => True) (by simp [e]) (by simp [e]) (by rw [e]; exact size_ev 0 n hg.1 hz) (by simp [e]) (by simp [e]) (by simp [e]) (fun h => h.elim (fun h => absurd h hg.2.1) (fun h => absurd h hg.2.2)) (fun h => absurd h hg.2.2) (by simp [e])
      (fun μ ⟨h, e1, h2, h3⟩ => ⟨h, [], e1, h2, h3, by rw [e]; rfl⟩)
  | d + 1, n, hg, hz => by
    have hz' : 1 + (n.f3.map (szD d)).sum ≤ 1000000 := hz
    have hsz : ∀ x ∈ n.f3, szD d x ≤ 1000000 := fun x hx => by
      have : szD d x ≤ (n.f3.map (szD d)).sum := mem_sum (List.mem_map_of_mem hx)
      omega
    have hl := szs_le d n.f3
    exact node_ev an (fun x hx => tick_same d x (hg.2.2 x hx) (hsz x hx)) (fun x hx => ⟨size_ev d x (hg.2.2 x hx).deep (hsz x hx), szD_pos d x⟩) (size_ev (d + 1) n hg.deep hz) (fun x hx μ => Fit.len d x μ) (fun x hx μ s => T_fit an d x (hg.2.2 x hx) μ s) (fun x hx μ s => T_res an d x (hg.2.2 x hx) μ s) hg.1 (fun h => (hg.2.1 h).2) (by omega) (fun μ h => h)
end
end Go.Proofs.Ytbpgfjfkogdolaa.TreeSameTreeTells
/- tree.Tick over a right tree and a right memory. Under the conditions that stand at it. -/
namespace Go.Proofs.Ytbpgfjfkogdolaa.TreeRightTreeTells
open Go Go.RowKit Go.Proofs.YtbpgfjfkogdolaaW.PrintWords Go.Proofs.YtbpgfjfkogdolaaW.PrintLast Go.Proofs.YtbpgfjfkogdolaaW.PrintMore Go.Proofs.Ytbpgfjfkogdolaa.PTreeTells Go.Proofs.Ytbpgfjfkogdolaa.Fnv Go.Proofs.Ytbpgfjfkogdolaa.TreePlainTreeTells Go.Proofs.Ytbpgfjfkogdolaa.TreeEvTreeTells Go.Proofs.Ytbpgfjfkogdolaa.TreeTTreeTells Go.Proofs.Ytbpgfjfkogdolaa.TreeSameTreeTells Go.Proofs.Ytbpgfjfkogdolaa.TreeCheckTreeTells Go.Proofs.Ytbpgfjfkogdolaa.TreeTopTreeTells
set_option linter.unusedVariables false
set_option linter.unusedSimpArgs false
/-- A right node, its kids aside. -/
def One (n : Nd) : Prop := 1 ≤ n.f0 ∧ n.f0 ≤ 8 ∧ ((n.f0 = 1 ∨ n.f0 = 2) → n.f3 = [] ∧ 1 ≤ n.f1.size ∧ n.f1.size ≤ 16) ∧ ((n.f0 = 5 ∨ n.f0 = 6) → n.f3.length = 1) ∧ (n.f0 = 6 → 1 ≤ n.f2 ∧ n.f2 ≤ 1000)
def Well : Nat → Nd → Prop
  | 0, n => One n ∧ n.f3 = []
  | d + 1, n => One n ∧ ∀ x ∈ n.f3, Well d x
theorem Well.one : ∀ {d : Nat} {n : Nd}, Well d n → One n
  | 0, _, h => h.1
  | _ + 1, _, h => h.1
theorem Well.good : ∀ (d : Nat) (n : Nd), Well d n → Good2 d n
  | 0, n, h => ⟨h.2, fun h5 => (by have := h.1.2.2.2.1 (.inl h5); rw [h.2] at this; cases this), fun h6 => (by have := h.1.2.2.2.1 (.inr h6); rw [h.2] at this; cases this)⟩
  | d + 1, n, ⟨h, hk⟩ => ⟨h.2.2.2.1, h.2.2.2.2, fun x hx => Well.good d x (hk x hx)⟩
theorem badV_well {n : Nd} (h : One n) (c : Int) (hc : c ≤ 200) : badV n c = 0 := by
  obtain ⟨h1, h2, h3, h4, h5⟩ := h
  unfold badV
  rw [if_neg (by omega), if_neg (by omega), if_neg, if_neg, if_neg]
  · rintro ⟨h6, h7⟩
    have := h5 h6
    omega
  · rintro ⟨h6, h7⟩
    exact h7 (h4 h6)
  · rintro ⟨h6, h7⟩
    obtain ⟨e, ha, hb⟩ := h3 h6
    rw [e] at h7
    rcases h7 with h7 | h7 | h7
    · exact absurd h7 (by simp)
    · omega
    · omega
theorem check_loop (d : Nat) (ih : ∀ (n : Nd) (c : Int), Well d n → 0 ≤ c → c + szD d n ≤ 200 → Evt (fun k => checkF k n c) (0, c + szD d n)) :
    ∀ (post pre : List Nd) (i c : Int), (∀ x ∈ post, Well d x) → i = pre.length → 0 ≤ c → c + (post.map (szD d)).sum ≤ 200 → pre.length + post.length ≤ 1000 → Evt (fun k => checkL k (pre ++ post) i c) (0, c + (post.map (szD d)).sum)
  | [], pre, i, c, _, hi, _, _, _ => by
    refine Evt.succ (p := fun _ => some (0, c)) (by simpa using Evt.const ((0 : Int), c)) fun k => ?_
    rw [checkL, if_neg (by simp; omega)]
  | x :: post, pre, i, c, hx, hi, h0, hs, hp => by
    have hs' : c + (szD d x + (post.map (szD d)).sum : Nat) ≤ 200 := by simpa using hs
    have hxp := szD_pos d x
    have h1 := ih x c (hx x (by simp)) h0 (by omega)
    refine Evt.succ (p := fun k => (checkF k x c).bind fun y => if y.1 = 0 then checkL k (pre ++ x :: post) (wrap64 (i + 1)) y.2 else some y) (Evt.bind h1 ?_) fun k => ?_
    · rw [show c + (((x :: post).map (szD d)).sum : Nat) = (c + szD d x) + ((post.map (szD d)).sum : Nat) by simp; omega]
      have hp' : pre.length + (post.length + 1) ≤ 1000 := by simpa using hp
      have := check_loop d ih post (pre ++ [x]) (wrap64 (i + 1)) (c + szD d x) (fun y hy => hx y (by simp [hy])) (by rw [w64 (by omega) (by omega)]; simp; omega) (by omega) (by omega) (by simp; omega)
      rw [show pre ++ [x] ++ post = pre ++ x :: post by simp] at this
      exact Evt.congr this fun k => if_pos rfl
    · rw [checkL, if_pos (by simp; omega), if_pos (by omega), rdN_at pre x post i hi]
theorem check_ev : ∀ (d : Nat) (n : Nd) (c : Int), Well d n → 0 ≤ c → c + szD d n ≤ 200 → Evt (fun k => checkF k n c) (0, c + szD d n)
  | 0, n, c, h, h0, hs => by
    have hs' : c + 1 ≤ 200 := hs
    have hw : wrap64 (c + 1) = c + 1 := w64 (by omega) (by omega)
    have hb := badV_well h.1 (wrap64 (c + 1)) (by omega)
    refine Evt.succ (p := fun k => checkL k n.f3 0 (wrap64 (c + 1))) ?_ fun k => by rw [checkF, if_pos hb]
    rw [h.2, hw]
    exact Evt.succ (p := fun _ => some (0, c + 1)) (Evt.const _) fun k => by rw [checkL, if_neg (by simp)]
  | d + 1, n, c, h, h0, hs => by
    have hs' : c + (1 + (n.f3.map (szD d)).sum : Nat) ≤ 200 := hs
    have hl := szs_le d n.f3
    have hw : wrap64 (c + 1) = c + 1 := w64 (by omega) (by omega)
    have hb := badV_well h.1 (wrap64 (c + 1)) (by omega)
    refine Evt.succ (p := fun k => checkL k n.f3 0 (wrap64 (c + 1))) ?_ fun k => by rw [checkF, if_pos hb]
    rw [hw]
    have := check_loop d (check_ev d) n.f3 [] 0 (c + 1) h.2 rfl (by omega) (by omega) (by simp; omega)
    rw [show c + ((szD (d + 1) n : Nat) : Int) = c + 1 + ((n.f3.map (szD d)).sum : Nat) by show c + ((1 + (n.f3.map (szD d)).sum : Nat) : Int) = _; omega]
    exact this

/-- What fits says at a node, its kids' numbers seen. -/
theorem fits_head {n : Nd} {h : Int} {l : List Int} {b : Bool} (hh0 : 0 ≤ h) (hh1 : h ≤ most n) (hk : n.f3.length ≤ 1000000) (h6 : n.f0 = 6 → 1 ≤ n.f2 ∧ n.f2 ≤ 1000) (hl : Evt (fun k => tree_fits.l0 k (h :: l) 1 n.f3 (n.f3.length : Int) 0) b) : Evt (fun k => tree_fits.f k n.f0 n.f1 n.f2 n.f3 (h :: l)) b := by
  have hj2 : Evt (fun k => tree_fits.j2 k (h :: l) false n.f0 n.f1 n.f2 n.f3) b := hl.succ fun k => by rw [tree_fits.j2, if_neg (by decide)]
  have hj1 : ∀ m, h ≤ m → Evt (fun k => tree_fits.j1 k (h :: l) m n.f0 n.f1 n.f2 n.f3) b := fun m hm => hj2.succ fun k => by
    rw [tree_fits.j1, if_pos (by simp only [List.length_cons]; omega), show rd (h :: l) 0 = h from rfl, if_neg (by omega), show decide (h > m) = false from decide_eq_false (by omega)]
  have hw1 : wrap64 ((n.f3.length : Int) - 1) = n.f3.length - 1 := w64 (by omega) (by omega)
  have hj0 : Evt (fun k => tree_fits.j0 k (h :: l) 0 n.f0 (decide (n.f0 = 3 ∨ n.f0 = 4)) n.f0 n.f1 n.f2 n.f3) b := by
    unfold most at hh1
    by_cases h34 : n.f0 = 3 ∨ n.f0 = 4
    · rw [if_pos h34] at hh1
      refine (hj1 (mx (wrap64 ((n.f3.length : Int) - 1)) 0) (by rw [hw1]; exact hh1)).succ fun k => ?_
      rw [tree_fits.j0, if_pos (by simpa using h34)]
    · rw [if_neg h34] at hh1
      by_cases c6 : n.f0 = 6
      · rw [if_pos c6] at hh1
        have := h6 c6
        refine (hj1 (wrap64 (n.f2 - 1)) (by rw [w64 (by omega) (by omega)]; exact hh1)).succ fun k => ?_
        rw [tree_fits.j0, if_neg (by simpa using h34), if_pos c6]
      · rw [if_neg c6] at hh1
        refine (hj1 0 hh1).succ fun k => ?_
        rw [tree_fits.j0, if_neg (by simpa using h34), if_neg c6]
  refine hj0.succ fun k => ?_
  by_cases c3 : n.f0 = 3
  · rw [tree_fits.f, if_pos c3, show (n.f0 == 3) = decide (n.f0 = 3 ∨ n.f0 = 4) by simp [c3]]
  · rw [tree_fits.f, if_neg c3, show (n.f0 == 4) = decide (n.f0 = 3 ∨ n.f0 = 4) by rw [decide_eq_decide.mpr (show (n.f0 = 3 ∨ n.f0 = 4) ↔ n.f0 = 4 by simp [c3])]; rfl]
theorem fits_loop (d : Nat) (ih : ∀ (n : Nd) (μ post : List Int), Well d n → Fit d n μ → szD d n ≤ 1000000 → μ.length + post.length ≤ 1000000 → Evt (fun k => tree_fits.f k n.f0 n.f1 n.f2 n.f3 (μ ++ post)) true) :
    ∀ (rest doneK : List Nd) (pre ν post : List Int) (at_ i : Int) (N : Nat), (∀ x ∈ rest, Well d x) → fitL (Fit d) (szD d) rest ν → at_ = pre.length → i = doneK.length → N = doneK.length + rest.length → N ≤ 1000000 → pre.length + ν.length + post.length ≤ 1000000 → Evt (fun k => tree_fits.l0 k (pre ++ ν ++ post) at_ (doneK ++ rest) (N : Int) i) true
  | [], doneK, pre, ν, post, at_, i, N, _, _, _, hi, hN, _, _ => by
    exact Evt.succ (p := fun _ => some true) (Evt.const _) fun k => by rw [tree_fits.l0, if_neg (by simp at hN; omega)]
  | x :: rest, doneK, pre, ν, post, at_, i, N, hw, ⟨α, β, e, h3, h4, h5⟩, ha, hi, hN, hN1, hl => by
    have hx := hw x (by simp)
    have hN' : N = doneK.length + (rest.length + 1) := by simpa using hN
    have hνl : ν.length = α.length + β.length := by rw [e]; simp
    have hdrop : (pre ++ ν ++ post).drop at_.toNat = α ++ (β ++ post) := by
      rw [show pre ++ ν ++ post = pre ++ (α ++ (β ++ post)) by rw [e]; simp, show at_.toNat = pre.length by omega, List.drop_left]
    refine Evt.succ (p := fun k => (tree_fits.f k x.f0 x.f1 x.f2 x.f3 (α ++ (β ++ post))).bind fun b => if b = true then (sizeF k x).bind fun z => tree_fits.l0 k (pre ++ ν ++ post) (wrap64 (at_ + z)) (doneK ++ x :: rest) (N : Int) (wrap64 (i + 1)) else some false)
      (Evt.bind (ih x α (β ++ post) hx h4 (by omega) (by simp; omega)) ?_) fun k => ?_
    · refine Evt.congr (Evt.bind (size_ev d x (Well.good d x hx).deep (by omega)) ?_) fun k => if_pos rfl
      have := fits_loop d ih rest (doneK ++ [x]) (pre ++ α) β post (wrap64 (at_ + (szD d x : Int))) (wrap64 (i + 1)) N (fun y hy => hw y (by simp [hy])) h5 (by rw [w64 (by omega) (by omega)]; simp; omega) (by rw [w64 (by omega) (by omega)]; simp; omega) (by simp; omega) hN1 (by simp; omega)
      rw [show pre ++ α ++ β ++ post = pre ++ ν ++ post by rw [e]; simp, show doneK ++ [x] ++ rest = doneK ++ x :: rest by simp] at this
      exact this
    · have hx0 : rd_T25 (doneK ++ x :: rest) i = x := rdN_at doneK x rest i hi
      rw [tree_fits.l0, if_pos (by omega), if_pos (by omega), if_pos (by simp; omega), if_pos (by omega), if_pos (by simp; omega), hx0, hdrop]
      rfl
theorem fits_ev : ∀ (d : Nat) (n : Nd) (μ post : List Int), Well d n → Fit d n μ → szD d n ≤ 1000000 → μ.length + post.length ≤ 1000000 → Evt (fun k => tree_fits.f k n.f0 n.f1 n.f2 n.f3 (μ ++ post)) true
  | 0, n, μ, post, hw, ⟨h, e, h0, h1⟩, hs, hl => by
    rw [e]
    refine fits_head h0 h1 (by rw [hw.2]; simp) hw.1.2.2.2.2 ?_
    rw [hw.2]
    exact Evt.succ (p := fun _ => some true) (Evt.const _) fun k => by rw [tree_fits.l0, if_neg (by simp)]
  | d + 1, n, μ, post, hw, ⟨h, ν, e, h0, h1, hν⟩, hs, hl => by
    rw [e] at hl ⊢
    have hs' : 1 + (n.f3.map (szD d)).sum ≤ 1000000 := hs
    have hll := szs_le d n.f3
    simp only [List.length_cons] at hl
    refine fits_head h0 h1 (by omega) hw.1.2.2.2.2 ?_
    have := fits_loop d (fits_ev d) n.f3 [] [h] ν post 1 0 n.f3.length hw.2 hν rfl rfl (by simp) (by omega) (by simp; omega)
    exact this

/-- tree.Tick, at a right tree with a right memory or none. -/
theorem top_ev {σ : Type} (an : σ → ByteArray → Int × σ) (d : Nat) (n : Nd) (hw : Well d n) (hs : szD d n ≤ 200) (mem μ : List Int) (hμ : Fit d n μ) (hm : mem = μ ∨ mem = [] ∧ μ = zs (szD d n)) (s : σ) :
    Evt (fun k => topF an k n mem s) ((T an d n μ s).1, (T an d n μ s).2.1, 0, (T an d n μ s).2.2) := by
  have hlen := Fit.len d n μ hμ
  have hp := szD_pos d n
  have hwalk : Evt (fun k => walkF an k n μ s) ((T an d n μ s).1, (T an d n μ s).2.1, 0, (T an d n μ s).2.2) := by
    have := tick_same an d n (Well.good d n hw) (by omega) μ hμ [] [] 0 s rfl (by simp; omega)
    simp only [List.nil_append, List.append_nil] at this
    exact Evt.bind this (Evt.const _)
  refine Evt.bind (check_ev d n 0 hw (by omega) (by omega)) ?_
  refine Evt.congr (p := fun k => (sizeF k n).bind _) (Evt.bind (size_ev d n (Well.good d n hw).deep (by omega)) ?_) fun k => if_pos rfl
  rcases hm with rfl | ⟨rfl, hz⟩
  · have hf := fits_ev d n mem [] hw hμ (by omega) (by simp; omega)
    rw [List.append_nil] at hf
    refine Evt.congr (p := fun k => (tree_fits.f k n.f0 n.f1 n.f2 n.f3 mem).bind _) (Evt.bind hf ?_) fun k => by rw [if_pos (by omega), if_pos (by omega), if_pos (by omega)]
    exact Evt.congr hwalk fun k => if_pos rfl
  · refine Evt.congr hwalk fun k => ?_
    rw [if_pos (by omega), if_neg (by simp), hz]
    rfl
end Go.Proofs.Ytbpgfjfkogdolaa.TreeRightTreeTells
