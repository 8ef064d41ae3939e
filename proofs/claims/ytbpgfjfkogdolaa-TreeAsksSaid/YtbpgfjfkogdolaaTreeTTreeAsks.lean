/- A tree's walk over the numbers of its own nodes alone, and that the walker's is the same. Under no condition but what stands at each. -/
import Derived.Test.YtbpgfjfkogdolaaTreeEvTreeAsks
namespace Go.Proofs.Ytbpgfjfkogdolaa.TreeTTreeAsks
open Go Go.RowKit Go.Proofs.YtbpgfjfkogdolaaW.PrintWords Go.Proofs.YtbpgfjfkogdolaaW.PrintLast Go.Proofs.YtbpgfjfkogdolaaW.PrintMore Go.Proofs.Ytbpgfjfkogdolaa.PTreeAsks Go.Proofs.Ytbpgfjfkogdolaa.Fnv Go.Proofs.Ytbpgfjfkogdolaa.TreePlainTreeAsks Go.Proofs.Ytbpgfjfkogdolaa.TreeEvTreeAsks
set_option linter.unusedVariables false
set_option linter.unusedSimpArgs false
def zs (n : Nat) : List Int := List.replicate n 0
def most (n : Nd) : Int := if n.f0 = 3 ∨ n.f0 = 4 then mx (n.f3.length - 1) 0 else if n.f0 = 6 then n.f2 - 1 else 0
def Good2 : Nat → Nd → Prop
  | 0, n => n.f3 = [] ∧ n.f0 ≠ 5 ∧ n.f0 ≠ 6
  | d + 1, n => ((n.f0 = 5 ∨ n.f0 = 6) → n.f3.length = 1) ∧ (n.f0 = 6 → 1 ≤ n.f2 ∧ n.f2 ≤ 1000) ∧ ∀ x ∈ n.f3, Good2 d x
theorem Good2.deep : ∀ (d : Nat) (n : Nd), Good2 d n → Deep d n
  | 0, n, h => h.1
  | d + 1, n, h => fun x hx => Good2.deep d x (h.2.2 x hx)
def fitL (F : Nd → List Int → Prop) (S : Nd → Nat) : List Nd → List Int → Prop
  | [], ν => ν = []
  | x :: l, ν => ∃ α β, ν = α ++ β ∧ α.length = S x ∧ F x α ∧ fitL F S l β
def Fit : Nat → Nd → List Int → Prop
  | 0, n, μ => ∃ h, μ = [h] ∧ 0 ≤ h ∧ h ≤ most n
  | d + 1, n, μ => ∃ h ν, μ = h :: ν ∧ 0 ≤ h ∧ h ≤ most n ∧ fitL (Fit d) (szD d) n.f3 ν
theorem fitL_len {F : Nd → List Int → Prop} {S : Nd → Nat} : ∀ (l : List Nd) (ν : List Int), fitL F S l ν → ν.length = (l.map S).sum
  | [], ν, h => by rw [show ν = [] from h]; rfl
  | x :: l, ν, ⟨α, β, e, h1, _, h2⟩ => by rw [e]; simp [h1, fitL_len l β h2]
theorem Fit.len : ∀ (d : Nat) (n : Nd) (μ : List Int), Fit d n μ → μ.length = szD d n
  | 0, n, μ, ⟨h, e, _⟩ => by rw [e]; rfl
  | d + 1, n, μ, ⟨h, ν, e, _, _, h1⟩ => by rw [e]; simp [szD, fitL_len _ _ h1, Nat.add_comm]
theorem most_nn (d : Nat) (n : Nd) (h : Good2 d n) : 0 ≤ most n := by
  unfold most
  split
  · unfold mx; split <;> omega
  · split
    · rename_i h6
      cases d with
      | zero => exact absurd h6 h.2.2
      | succ d => have := h.2.1 h6; omega
    · omega
theorem fitL_zs {F : Nd → List Int → Prop} {S : Nd → Nat} : ∀ (l : List Nd), (∀ x ∈ l, F x (zs (S x))) → fitL F S l (zs (l.map S).sum)
  | [], _ => rfl
  | x :: l, h => ⟨zs (S x), zs (l.map S).sum, by simp only [zs, List.map_cons, List.sum_cons, List.replicate_append_replicate], by simp [zs], h x (by simp), fitL_zs l (fun y hy => h y (by simp [hy]))⟩
theorem Fit.zeros : ∀ (d : Nat) (n : Nd), Good2 d n → Fit d n (zs (szD d n))
  | 0, n, h => ⟨0, rfl, by omega, most_nn 0 n h⟩
  | d + 1, n, h => ⟨0, zs (n.f3.map (szD d)).sum, by show List.replicate (1 + _) _ = _; rw [Nat.add_comm]; rfl, by omega, most_nn (d + 1) n h, fitL_zs n.f3 fun x hx => Fit.zeros d x (h.2.2 x hx)⟩
section
variable {σ : Type} (an : σ → ByteArray → Int × σ)
def kidsL (T : Nd → List Int → σ → Int × List Int × σ) (S : Nd → Nat) (kind first : Int) (total : Nat) : Int → List Nd → List Int → Nat → σ → Int × List Int × σ
  | i, [], ν, nb, s => (onV kind, zs total, s)
  | i, x :: rest, ν, nb, s =>
    if i ≥ first then
      if (T x (ν.take (S x)) s).1 = 2 then (2, (if kind = 3 ∨ kind = 4 then i else 0) :: (zs nb ++ (T x (ν.take (S x)) s).2.1 ++ zs (rest.map S).sum), (T x (ν.take (S x)) s).2.2)
      else if (T x (ν.take (S x)) s).1 = onV kind then kidsL T S kind first total (i + 1) rest (ν.drop (S x)) (nb + S x) (T x (ν.take (S x)) s).2.2
      else ((T x (ν.take (S x)) s).1, zs total, (T x (ν.take (S x)) s).2.2)
    else kidsL T S kind first total (i + 1) rest (ν.drop (S x)) (nb + S x) s
def nodeT (T : Nd → List Int → σ → Int × List Int × σ) (S : Nd → Nat) (n : Nd) (μ : List Int) (s : σ) : Int × List Int × σ :=
  if n.f0 = 1 ∨ n.f0 = 2 then (leafV n.f0 (an s n.f1).1, μ, (an s n.f1).2)
  else if n.f0 = 5 then (if (T (rdN n.f3 0) μ.tail s).1 = 2 then 2 else 1 - (T (rdN n.f3 0) μ.tail s).1, μ.headD 0 :: (T (rdN n.f3 0) μ.tail s).2.1, (T (rdN n.f3 0) μ.tail s).2.2)
  else if n.f0 = 6 then
    if (T (rdN n.f3 0) μ.tail s).1 = 2 then (2, μ.headD 0 :: (T (rdN n.f3 0) μ.tail s).2.1, (T (rdN n.f3 0) μ.tail s).2.2)
    else if (T (rdN n.f3 0) μ.tail s).1 = 1 ∧ μ.headD 0 + 1 < n.f2 then (2, (μ.headD 0 + 1) :: zs μ.tail.length, (T (rdN n.f3 0) μ.tail s).2.2)
    else ((T (rdN n.f3 0) μ.tail s).1, zs μ.length, (T (rdN n.f3 0) μ.tail s).2.2)
  else kidsL T S n.f0 (μ.headD 0) μ.length 0 n.f3 μ.tail 0 s
def T : Nat → Nd → List Int → σ → Int × List Int × σ
  | 0 => nodeT an (fun _ μ s => (0, μ, s)) (fun _ => 1)
  | d + 1 => nodeT an (T d) (szD d)
theorem leafV_res (k r : Int) : leafV k r = 0 ∨ leafV k r = 1 ∨ leafV k r = 2 := by
  unfold leafV
  split <;> omega
theorem onV_res (k : Int) : onV k = 0 ∨ onV k = 1 := by unfold onV; split <;> omega
theorem kidsL_res {T : Nd → List Int → σ → Int × List Int × σ} {S : Nd → Nat} {kind first : Int} {total : Nat} : ∀ (l : List Nd) (i : Int) (ν : List Int) (nb : Nat) (s : σ), (∀ x ∈ l, ∀ μ s, (T x μ s).1 = 0 ∨ (T x μ s).1 = 1 ∨ (T x μ s).1 = 2) →
    ((kidsL T S kind first total i l ν nb s).1 = 0 ∨ (kidsL T S kind first total i l ν nb s).1 = 1 ∨ (kidsL T S kind first total i l ν nb s).1 = 2)
  | [], i, ν, nb, s, h => by
    have := onV_res kind
    simp only [kidsL]
    omega
  | x :: l, i, ν, nb, s, h => by
    have h1 := h x (by simp) (ν.take (S x)) s
    rw [kidsL]
    split
    · split
      · exact .inr (.inr rfl)
      · split
        · exact kidsL_res l _ _ _ _ (fun y hy => h y (by simp [hy]))
        · exact h1
    · exact kidsL_res l _ _ _ _ (fun y hy => h y (by simp [hy]))
theorem T_res : ∀ (d : Nat) (n : Nd), Good2 d n → ∀ (μ : List Int) (s : σ), (T an d n μ s).1 = 0 ∨ (T an d n μ s).1 = 1 ∨ (T an d n μ s).1 = 2
  | 0, n, h, μ, s => by
    unfold T nodeT
    split
    · exact leafV_res _ _
    · rw [if_neg h.2.1, if_neg h.2.2, h.1]
      exact kidsL_res [] _ _ _ _ (by simp)
  | d + 1, n, h, μ, s => by
    unfold T nodeT
    have hk : (n.f0 = 5 ∨ n.f0 = 6) → ∀ μ s, (T an d (rdN n.f3 0) μ s).1 = 0 ∨ (T an d (rdN n.f3 0) μ s).1 = 1 ∨ (T an d (rdN n.f3 0) μ s).1 = 2 := by
      intro h5 μ s
      have hl := h.1 h5
      match hf : n.f3, hl with
      | [x], _ => exact T_res d x (h.2.2 x (by simp [hf])) μ s
    split
    · exact leafV_res _ _
    · split
      · have := hk (.inl (by assumption)) μ.tail s
        dsimp only
        split <;> omega
      · split
        · have := hk (.inr (by assumption)) μ.tail s
          split
          · exact .inr (.inr rfl)
          · split
            · exact .inr (.inr rfl)
            · exact this
        · exact kidsL_res _ _ _ _ _ (fun x hx μ s => T_res d x (h.2.2 x hx) μ s)
theorem fitL_app {F : Nd → List Int → Prop} {S : Nd → Nat} : ∀ (l1 l2 : List Nd) (ν1 ν2 : List Int), fitL F S l1 ν1 → fitL F S l2 ν2 → fitL F S (l1 ++ l2) (ν1 ++ ν2)
  | [], l2, ν1, ν2, h1, h2 => by rw [show ν1 = [] from h1]; exact h2
  | x :: l1, l2, ν1, ν2, ⟨α, β, e, h3, h4, h5⟩, h2 => ⟨α, β ++ ν2, by rw [e, List.append_assoc], h3, h4, fitL_app l1 l2 β ν2 h5 h2⟩
theorem kidsL_fit {F : Nd → List Int → Prop} {T : Nd → List Int → σ → Int × List Int × σ} {S : Nd → Nat} {n : Nd} {first : Int} (hm : 0 ≤ most n) (hT : ∀ x ∈ n.f3, ∀ μ s, F x μ → F x (T x μ s).2.1) (hz : ∀ x ∈ n.f3, F x (zs (S x))) (hL : ∀ x ∈ n.f3, ∀ μ, F x μ → μ.length = S x) :
    ∀ (l pre : List Nd) (i : Int) (ν : List Int) (nb : Nat) (s : σ), n.f3 = pre ++ l → i = pre.length → nb = (pre.map S).sum → fitL F S l ν →
      ∃ h' ν', (kidsL T S n.f0 first (1 + (n.f3.map S).sum) i l ν nb s).2.1 = h' :: ν' ∧ 0 ≤ h' ∧ h' ≤ most n ∧ fitL F S n.f3 ν'
  | [], pre, i, ν, nb, s, hl, hi, hn, hf => ⟨0, zs (n.f3.map S).sum, by show zs (1 + _) = _; rw [Nat.add_comm]; rfl, by omega, hm, fitL_zs _ hz⟩
  | x :: l, pre, i, ν, nb, s, hl, hi, hn, ⟨α, β, e, h3, h4, h5⟩ => by
    have e1 : ν.take (S x) = α := by rw [e, ← h3, List.take_left]
    have e2 : ν.drop (S x) = β := by rw [e, ← h3, List.drop_left]
    have hx : x ∈ n.f3 := by rw [hl]; simp
    have hz0 : ∃ h' ν', zs (1 + (n.f3.map S).sum) = h' :: ν' ∧ 0 ≤ h' ∧ h' ≤ most n ∧ fitL F S n.f3 ν' := ⟨0, zs (n.f3.map S).sum, by show zs (1 + _) = _; rw [Nat.add_comm]; rfl, by omega, hm, fitL_zs _ hz⟩
    have hgo : ∀ s, ∃ h' ν', (kidsL T S n.f0 first (1 + (n.f3.map S).sum) (i + 1) l β (nb + S x) s).2.1 = h' :: ν' ∧ 0 ≤ h' ∧ h' ≤ most n ∧ fitL F S n.f3 ν' := fun s =>
      kidsL_fit hm hT hz hL l (pre ++ [x]) (i + 1) β (nb + S x) s (by rw [hl]; simp) (by simp; omega) (by simp [hn]) h5
    rw [kidsL, e1, e2]
    split
    · split
      · refine ⟨_, _, rfl, ?_, ?_, ?_⟩
        · split <;> omega
        · split
          · rename_i h34
            unfold most
            rw [if_pos h34, hl]
            unfold mx
            have := congrArg List.length hl
            simp
            split <;> omega
          · exact hm
        · rw [hl, hn]
          rw [List.append_assoc]
          exact fitL_app _ _ _ _ (fitL_zs pre fun y hy => hz y (by rw [hl]; simp [hy])) ⟨_, _, rfl, hL x hx _ (hT x hx _ _ h4), hT x hx _ _ h4, fitL_zs l fun y hy => hz y (by rw [hl]; simp [hy])⟩
      · split
        · exact hgo _
        · exact hz0
    · exact hgo _
theorem fitL_one {F : Nd → List Int → Prop} {S : Nd → Nat} {x : Nd} {ν : List Int} (h : fitL F S [x] ν) : F x ν ∧ ν.length = S x := by
  obtain ⟨α, β, e, h1, h2, h3⟩ := h
  rw [show β = [] from h3, List.append_nil] at e
  exact ⟨e ▸ h2, e ▸ h1⟩
theorem one_fitL {F : Nd → List Int → Prop} {S : Nd → Nat} {x : Nd} {ν : List Int} (h : F x ν) (hl : ν.length = S x) : fitL F S [x] ν := ⟨ν, [], by simp, hl, h, rfl⟩
theorem T_fit : ∀ (d : Nat) (n : Nd), Good2 d n → ∀ (μ : List Int) (s : σ), Fit d n μ → Fit d n (T an d n μ s).2.1
  | 0, n, h, μ, s, hf => by
    have h0 := most_nn 0 n h
    unfold T nodeT
    split
    · exact hf
    · rw [if_neg h.2.1, if_neg h.2.2, h.1]
      refine ⟨0, ?_, by omega, h0⟩
      obtain ⟨a, rfl, _⟩ := hf
      rfl
  | d + 1, n, h, μ, s, hf => by
    have h0 := most_nn (d + 1) n h
    have hf' := hf
    have hlen := Fit.len (d + 1) n μ hf
    obtain ⟨a, ν, rfl, ha0, ha1, hν⟩ := hf'
    have hL : ∀ x ∈ n.f3, ∀ μ, Fit d x μ → μ.length = szD d x := fun x _ μ => Fit.len d x μ
    have hz : ∀ x ∈ n.f3, Fit d x (zs (szD d x)) := fun x hx => Fit.zeros d x (h.2.2 x hx)
    have hT : ∀ x ∈ n.f3, ∀ μ s, Fit d x μ → Fit d x (T an d x μ s).2.1 := fun x hx μ s => T_fit d x (h.2.2 x hx) μ s
    unfold T nodeT
    split
    · exact hf
    · split
      · have hl := h.1 (.inl (by assumption))
        match hn : n.f3, hl with
        | [x], _ =>
          have hx : x ∈ n.f3 := by simp [hn]
          rw [hn] at hν
          have hν := fitL_one hν
          refine ⟨a, _, rfl, ha0, ha1, ?_⟩
          rw [hn]
          exact one_fitL (hT x hx _ _ hν.1) (hL x hx _ (hT x hx _ _ hν.1))
      · split
        · rename_i h6
          have hl := h.1 (.inr h6)
          match hn : n.f3, hl with
          | [x], _ =>
            have hx : x ∈ n.f3 := by simp [hn]
            rw [hn] at hν
            have hν := fitL_one hν
            split
            · refine ⟨a, _, rfl, ha0, ha1, ?_⟩
              rw [hn]
              exact one_fitL (hT x hx _ _ hν.1) (hL x hx _ (hT x hx _ _ hν.1))
            · split
              · rename_i h7
                have h8 : a + 1 < n.f2 := h7.2
                refine ⟨a + 1, _, rfl, by omega, ?_, ?_⟩
                · unfold most
                  rw [if_neg (by omega), if_pos h6]
                  omega
                · rw [hn, show (a :: ν).tail = ν from rfl, hν.2]
                  exact one_fitL (hz x hx) (by simp [zs])
              · show Fit (d + 1) n (zs (a :: ν).length)
                rw [hlen]
                exact Fit.zeros (d + 1) n h
        · obtain ⟨h', ν', e, h1, h2, h3⟩ := kidsL_fit (first := a) h0 hT hz hL n.f3 [] 0 ν 0 s rfl rfl rfl hν
          rw [hlen]
          exact ⟨h', ν', e, h1, h2, h3⟩
end
end Go.Proofs.Ytbpgfjfkogdolaa.TreeTTreeAsks
