/- The walker's tick is the plain walk. Under the conditions that stand at it. -/
import Derived.Test.YtbpgfjfkogdolaaTreeTTreeAsks
namespace Go.Proofs.Ytbpgfjfkogdolaa.TreeSameTreeAsks
open Go Go.RowKit Go.Proofs.YtbpgfjfkogdolaaW.PrintWords Go.Proofs.YtbpgfjfkogdolaaW.PrintLast Go.Proofs.YtbpgfjfkogdolaaW.PrintMore Go.Proofs.Ytbpgfjfkogdolaa.PTreeAsks Go.Proofs.Ytbpgfjfkogdolaa.Fnv Go.Proofs.Ytbpgfjfkogdolaa.TreePlainTreeAsks Go.Proofs.Ytbpgfjfkogdolaa.TreeEvTreeAsks Go.Proofs.Ytbpgfjfkogdolaa.TreeTTreeAsks
set_option linter.unusedVariables false
set_option linter.unusedSimpArgs false
theorem forget2 {n : Nd} {Z : Nat} (hn : Evt (fun k => sizeF k n) (Z : Int)) (hp : 0 < Z) (pre mid post : List Int) (hm : mid.length = Z) (hl : pre.length + mid.length + post.length ≤ 1000000) (a : Int) (ha : a = pre.length) : Evt (fun k => forgetF k n a (pre ++ mid ++ post)) (pre ++ zs Z ++ post) := by
  subst ha
  refine Evt.bind hn ?_
  refine Evt.congr (Evt.const _) fun k => ?_
  rw [w64 (by omega) (by omega), if_pos ⟨by omega, by omega, by simp; omega⟩, Int.toNat_natCast, wipe_mid pre mid post _ (by omega), hm]
  rfl
theorem laid_mid (pre a b c κ post : List Int) (i : Nat) (hi : i = pre.length + a.length) (hκ : κ.length = b.length) : laid (pre ++ (a ++ b ++ c) ++ post) i κ = pre ++ (a ++ κ ++ c) ++ post := by
  subst hi
  unfold laid
  have h1 : (pre ++ (a ++ b ++ c) ++ post).take (pre.length + a.length) = pre ++ a := by
    rw [show pre ++ (a ++ b ++ c) ++ post = (pre ++ a) ++ (b ++ c ++ post) by simp, ← List.length_append, List.take_left]
  have h2 : (pre ++ (a ++ b ++ c) ++ post).drop (pre.length + a.length + κ.length) = c ++ post := by
    rw [show pre ++ (a ++ b ++ c) ++ post = (pre ++ a ++ b) ++ (c ++ post) by simp, hκ, show pre.length + a.length + b.length = (pre ++ a ++ b).length by simp [Nat.add_assoc], List.drop_left]
  rw [h1, h2]
  simp
theorem part_mid (pre a b c post : List Int) (i n : Nat) (hi : i = pre.length + a.length) (hn : n = b.length) : ((pre ++ (a ++ b ++ c) ++ post).drop i).take n = b := by
  subst hi hn
  rw [show pre ++ (a ++ b ++ c) ++ post = (pre ++ a) ++ (b ++ (c ++ post)) by simp, ← List.length_append, List.drop_left, List.take_left]
theorem set_mid (pre : List Int) (h : Int) (ν post : List Int) (i : Nat) (hi : i = pre.length) (v : Int) : (pre ++ (h :: ν) ++ post).set i v = pre ++ (v :: ν) ++ post := by
  subst hi
  rw [List.append_assoc, List.set_append_right _ _ (Nat.le_refl _), List.append_assoc]
  simp
theorem rd_mid (pre : List Int) (h : Int) (ν post : List Int) (i : Int) (hi : i = pre.length) : rd (pre ++ (h :: ν) ++ post) i = h := by
  subst hi
  simp [rd, List.getD]

section
variable {σ : Type} (an : σ → ByteArray → Int × σ)
/-- What tick does at a node with these numbers. -/
def Ticks (F : Nd → List Int → Prop) (Tk : Nd → List Int → σ → Int × List Int × σ) (x : Nd) : Prop :=
  ∀ (μ : List Int), F x μ → ∀ (pre post : List Int) (a : Int) (s : σ), a = pre.length → pre.length + μ.length + post.length ≤ 1000000 →
    Evt (fun k => tickF an k x a (pre ++ μ ++ post) s) ((Tk x μ s).1, pre ++ (Tk x μ s).2.1 ++ post, (Tk x μ s).2.2)

theorem loop_ev {F : Nd → List Int → Prop} {Tk : Nd → List Int → σ → Int × List Int × σ} {S : Nd → Nat} {n : Nd} {first : Int} (ht : ∀ x ∈ n.f3, Ticks an F Tk x) (hS : ∀ x ∈ n.f3, Evt (fun k => sizeF k x) (S x : Int) ∧ 0 < S x) (hn : Evt (fun k => sizeF k n) ((1 + (n.f3.map S).sum : Nat) : Int))
    (hF : ∀ x ∈ n.f3, ∀ μ, F x μ → μ.length = S x) (hT : ∀ x ∈ n.f3, ∀ μ s, F x μ → F x (Tk x μ s).2.1) :
    ∀ (l doneK : List Nd) (pre post done ν : List Int) (h : Int) (a fr i : Int) (s : σ), n.f3 = doneK ++ l → done.length = (doneK.map S).sum → fitL F S l ν → a = pre.length → fr = pre.length + 1 + done.length → i = doneK.length → pre.length + (1 + (n.f3.map S).sum) + post.length ≤ 1000000 →
      n.f3.length ≤ 1000000 → Evt (fun k => loopF an k n a first fr i (pre ++ (h :: (done ++ ν)) ++ post) s)
        ((kidsL Tk S n.f0 first (1 + (n.f3.map S).sum) i l ν done.length s).1, pre ++ (kidsL Tk S n.f0 first (1 + (n.f3.map S).sum) i l ν done.length s).2.1 ++ post, (kidsL Tk S n.f0 first (1 + (n.f3.map S).sum) i l ν done.length s).2.2)
  | [], doneK, pre, post, done, ν, h, a, fr, i, s, hl, hd, hν, ha, hfr, hi, hb, hk => by
    obtain rfl : ν = [] := hν
    have e1 : n.f3 = doneK := by rw [hl, List.append_nil]
    refine Evt.succ (p := fun k => (forgetF k n a (pre ++ (h :: (done ++ [])) ++ post)).bind fun m2 => some (onV n.f0, m2, s)) (Evt.bind (forget2 hn (by omega) pre (h :: (done ++ [])) post (by simp [hd, e1]; omega) (by simp [hd, e1] at hb ⊢; omega) a ha) (Evt.const _)) fun k => ?_
    rw [loopF, if_neg (by rw [hi, e1]; omega)]
  | x :: l, doneK, pre, post, done, ν, h, a, fr, i, s, hl, hd, ⟨α, β, e, h3, h4, h5⟩, ha, hfr, hi, hb, hk => by
    have hx : x ∈ n.f3 := by rw [hl]; simp
    have e1 : ν.take (S x) = α := by rw [e, ← h3, List.take_left]
    have e2 : ν.drop (S x) = β := by rw [e, ← h3, List.drop_left]
    have hsum : (n.f3.map S).sum = done.length + (S x + (l.map S).sum) := by rw [hl, hd]; simp
    have hβ := fitL_len l β h5
    have hlenk := congrArg List.length hl
    simp only [List.length_append, List.length_cons] at hlenk
    have hx0 : rdN n.f3 i = x := by rw [hl]; exact rdN_at doneK x l i hi
    obtain ⟨hSx, hSp⟩ := hS x hx
    have hgo : ∀ (α' : List Int) (s : σ), F x α' → Evt (fun k => loopF an k n a first (wrap64 (fr + (S x : Int))) (wrap64 (i + 1)) (pre ++ (h :: (done ++ (α' ++ β))) ++ post) s)
        ((kidsL Tk S n.f0 first (1 + (n.f3.map S).sum) (i + 1) l β (done.length + S x) s).1, pre ++ (kidsL Tk S n.f0 first (1 + (n.f3.map S).sum) (i + 1) l β (done.length + S x) s).2.1 ++ post, (kidsL Tk S n.f0 first (1 + (n.f3.map S).sum) (i + 1) l β (done.length + S x) s).2.2) := by
      intro α' s hα
      have hl' := hF x hx α' hα
      have := loop_ev (first := first) ht hS hn hF hT l (doneK ++ [x]) pre post (done ++ α') β h a (wrap64 (fr + (S x : Int))) (wrap64 (i + 1)) s (by rw [hl]; simp) (by simp [hd, hl']) h5 ha (by rw [w64 (by omega) (by omega)]; simp; omega) (by rw [w64 (by omega) (by omega)]; simp; omega) hb hk
      rw [show wrap64 (i + 1) = i + 1 from w64 (by omega) (by omega), List.length_append, hl', show done ++ α' ++ β = done ++ (α' ++ β) by simp] at this
      rw [show wrap64 (i + 1) = i + 1 from w64 (by omega) (by omega)]
      exact this
    refine Evt.succ (p := fun k => (sizeF k x).bind fun z =>
        if i ≥ first then (tickF an k x fr (pre ++ (h :: (done ++ ν)) ++ post) s).bind fun x =>
          if x.1 = 2 then
            if 0 ≤ fr ∧ fr < wrap64 (fr + z) ∧ wrap64 (fr + z) ≤ x.2.1.length then (forgetF k n a x.2.1).bind fun m2 =>
              if n.f0 = 3 ∨ n.f0 = 4 then some (2, (laid m2 fr.toNat ((x.2.1.drop fr.toNat).take (wrap64 (fr + z) - fr).toNat)).set a.toNat i, x.2.2)
              else some (2, laid m2 fr.toNat ((x.2.1.drop fr.toNat).take (wrap64 (fr + z) - fr).toNat), x.2.2)
            else none
          else if x.1 = onV n.f0 then loopF an k n a first (wrap64 (fr + z)) (wrap64 (i + 1)) x.2.1 x.2.2
          else (forgetF k n a x.2.1).bind fun m2 => some (x.1, m2, x.2.2)
        else loopF an k n a first (wrap64 (fr + z)) (wrap64 (i + 1)) (pre ++ (h :: (done ++ ν)) ++ post) s) (Evt.bind hSx ?_) fun k => ?_
    · rw [kidsL, e1, e2]
      by_cases hfi : i ≥ first
      · rw [if_pos hfi]
        have hα := hF x hx _ (hT x hx α s h4)
        have htick := ht x hx α h4 (pre ++ (h :: done)) (β ++ post) fr s (by simp; omega) (by simp; omega)
        rw [show pre ++ (h :: done) ++ α ++ (β ++ post) = pre ++ (h :: (done ++ ν)) ++ post by rw [e]; simp, show ∀ q, pre ++ (h :: done) ++ q ++ (β ++ post) = pre ++ (h :: (done ++ (q ++ β))) ++ post from fun q => by simp] at htick
        obtain ⟨r, α', s', hr⟩ : ∃ r α' s', Tk x α s = (r, α', s') := ⟨_, _, _, rfl⟩
        have hFα := hT x hx α s h4
        rw [hr] at htick hα hFα ⊢
        dsimp only at htick hα hFα ⊢
        refine Evt.congr (p := fun k => (tickF an k x fr (pre ++ (h :: (done ++ ν)) ++ post) s).bind _) (Evt.bind htick ?_) (fun k => if_pos hfi)
        dsimp only
        have hfor := forget2 hn (by omega) pre (h :: (done ++ (α' ++ β))) post (by simp; omega) (by simp; omega) a ha
        have hw : wrap64 (fr + (S x : Int)) = ((pre.length + (1 + done.length) + S x : Nat) : Int) := by rw [w64 (by omega) (by omega)]; omega
        by_cases h2 : r = 2
        · rw [if_pos h2]
          refine Evt.congr (p := fun k => (forgetF k n a (pre ++ (h :: (done ++ (α' ++ β))) ++ post)).bind _) (Evt.bind hfor ?_) (fun k => by rw [if_pos h2, if_pos ⟨by omega, by omega, by rw [hw]; simp; omega⟩])
          have hfn : fr.toNat = pre.length + (h :: done).length := by simp; omega
          have hp := part_mid pre (h :: done) α' β post fr.toNat (wrap64 (fr + (S x : Int)) - fr).toNat hfn (by omega)
          rw [show pre ++ (h :: done ++ α' ++ β) ++ post = pre ++ (h :: (done ++ (α' ++ β))) ++ post by simp] at hp
          rw [hp]
          have hz : pre ++ zs (1 + (n.f3.map S).sum) ++ post = pre ++ ((0 :: zs done.length) ++ zs α'.length ++ zs β.length) ++ post := by
            rw [hsum, hα, hβ]
            unfold zs
            rw [show (0 : Int) :: List.replicate done.length 0 = List.replicate (1 + done.length) 0 by rw [Nat.add_comm]; rfl]
            simp only [List.replicate_append_replicate, Nat.add_assoc]
          have hlaid := laid_mid pre (0 :: zs done.length) (zs α'.length) (zs β.length) α' post fr.toNat (by simp [zs]; omega) (by simp [zs])
          rw [hz, hlaid]
          have hfin : ∀ v, pre ++ (v :: zs done.length ++ α' ++ zs β.length) ++ post = pre ++ (v :: (zs done.length ++ α' ++ zs (l.map S).sum)) ++ post := fun v => by rw [hβ]; simp
          by_cases h34 : n.f0 = 3 ∨ n.f0 = 4
          · refine Evt.congr (Evt.const _) fun k => ?_
            rw [if_pos h34, if_pos h34, show pre ++ (0 :: zs done.length ++ α' ++ zs β.length) ++ post = pre ++ (0 :: (zs done.length ++ α' ++ zs (l.map S).sum)) ++ post from hfin 0, set_mid pre 0 _ post a.toNat (by omega)]
          · refine Evt.congr (Evt.const _) fun k => ?_
            rw [if_neg h34, if_neg h34, hfin 0]
        · rw [if_neg h2]
          by_cases ho : r = onV n.f0
          · rw [if_pos ho]
            exact Evt.congr (hgo α' s' hFα) fun k => by rw [if_neg h2, if_pos ho]
          · rw [if_neg ho]
            refine Evt.congr (Evt.bind hfor (Evt.const _)) fun k => by rw [if_neg h2, if_neg ho]
      · rw [if_neg hfi]
        rw [e]
        exact Evt.congr (hgo α s h4) fun k => if_neg hfi
    · rw [loopF, if_pos (by omega), if_pos (by omega), hx0]
/-- A node, over what its kids do. -/
theorem node_ev {F G : Nd → List Int → Prop} {Tk : Nd → List Int → σ → Int × List Int × σ} {S : Nd → Nat} {n : Nd} (ht : ∀ x ∈ n.f3, Ticks an F Tk x) (hS : ∀ x ∈ n.f3, Evt (fun k => sizeF k x) (S x : Int) ∧ 0 < S x) (hn : Evt (fun k => sizeF k n) ((1 + (n.f3.map S).sum : Nat) : Int))
    (hF : ∀ x ∈ n.f3, ∀ μ, F x μ → μ.length = S x) (hT : ∀ x ∈ n.f3, ∀ μ s, F x μ → F x (Tk x μ s).2.1) (hr : ∀ x ∈ n.f3, ∀ μ s, (Tk x μ s).1 = 0 ∨ (Tk x μ s).1 = 1 ∨ (Tk x μ s).1 = 2)
    (h1 : (n.f0 = 5 ∨ n.f0 = 6) → n.f3.length = 1) (h6 : n.f0 = 6 → n.f2 ≤ 1000) (hk : n.f3.length ≤ 1000000)
    (hG : ∀ μ, G n μ → ∃ h ν, μ = h :: ν ∧ 0 ≤ h ∧ h ≤ most n ∧ fitL F S n.f3 ν) : Ticks an G (nodeT an Tk S) n := by
  intro μ hμ pre post a s ha hb
  obtain ⟨h, ν, rfl, hh0, hh1, hν⟩ := hG μ hμ
  have hνl := fitL_len _ _ hν
  simp only [List.length_cons] at hb
  unfold nodeT
  by_cases c1 : n.f0 = 1 ∨ n.f0 = 2
  · rw [if_pos c1]
    refine Evt.succ (Evt.const _) fun k => ?_
    rw [tickF, if_pos c1]
  · rw [if_neg c1]
    by_cases c5 : n.f0 = 5
    · rw [if_pos c5]
      have hl := h1 (.inl c5)
      match hn3 : n.f3, hl with
      | [x], _ =>
        have hx : x ∈ n.f3 := by simp [hn3]
        rw [hn3] at hν
        obtain ⟨hFx, hlx⟩ := fitL_one hν
        have htk := ht x hx ν hFx (pre ++ [h]) post (wrap64 (a + 1)) s (by rw [w64 (by omega) (by omega)]; simp; omega) (by simp; omega)
        have hrr := hr x hx ν s
        rw [show rdN [x] 0 = x from rfl, show (h :: ν).tail = ν from rfl, show (h :: ν).headD 0 = h from rfl]
        rw [show pre ++ [h] ++ ν ++ post = pre ++ (h :: ν) ++ post by simp, show ∀ q : List Int, pre ++ [h] ++ q ++ post = pre ++ (h :: q) ++ post from fun q => by simp] at htk
        refine Evt.succ (p := fun k => (tickF an k x (wrap64 (a + 1)) (pre ++ (h :: ν) ++ post) s).bind fun x => if x.1 = 2 then some (2, x.2.1, x.2.2) else some (wrap64 (1 - x.1), x.2.1, x.2.2)) (Evt.bind htk (Evt.congr (Evt.const _) fun k => ?_)) fun k => ?_
        · by_cases c2 : (Tk x ν s).1 = 2
          · rw [if_pos c2, if_pos c2]
          · rw [if_neg c2, if_neg c2, show wrap64 (1 - (Tk x ν s).1) = 1 - (Tk x ν s).1 from w64 (by omega) (by omega)]
        · rw [tickF, if_neg c1, if_pos c5, hn3, if_pos (by simp)]
          rfl
    · rw [if_neg c5]
      by_cases c6 : n.f0 = 6
      · rw [if_pos c6]
        have hl := h1 (.inr c6)
        have h62 := h6 c6
        have hmost : most n = n.f2 - 1 := by unfold most; rw [if_neg (by omega), if_pos c6]
        match hn3 : n.f3, hl with
        | [x], _ =>
          have hx : x ∈ n.f3 := by simp [hn3]
          rw [hn3] at hν
          obtain ⟨hFx, hlx⟩ := fitL_one hν
          have htk := ht x hx ν hFx (pre ++ [h]) post (wrap64 (a + 1)) s (by rw [w64 (by omega) (by omega)]; simp; omega) (by simp; omega)
          rw [show rdN [x] 0 = x from rfl, show (h :: ν).tail = ν from rfl, show (h :: ν).headD 0 = h from rfl]
          rw [show pre ++ [h] ++ ν ++ post = pre ++ (h :: ν) ++ post by simp, show ∀ q : List Int, pre ++ [h] ++ q ++ post = pre ++ (h :: q) ++ post from fun q => by simp] at htk
          have hFt := hT x hx ν s hFx
          have hlt := hF x hx _ hFt
          have hsum : 1 + (n.f3.map S).sum = 1 + S x := by simp [hn3]
          rw [hsum] at hn
          obtain ⟨r, α', s', hy⟩ : ∃ r α' s', Tk x ν s = (r, α', s') := ⟨_, _, _, rfl⟩
          rw [hy] at htk hlt ⊢
          dsimp only at htk hlt ⊢
          have hfor := forget2 hn (by omega) pre (h :: α') post (by simp; omega) (by simp; omega) a ha
          have hrd : rd (pre ++ (h :: α') ++ post) a = h := rd_mid pre h α' post a ha
          have hw : wrap64 (h + 1) = h + 1 := w64 (by omega) (by omega)
          refine Evt.succ (p := fun k => againF an k n a (pre ++ (h :: ν) ++ post) s) (Evt.succ (p := fun k => (tickF an k x (wrap64 (a + 1)) (pre ++ (h :: ν) ++ post) s).bind fun x =>
            if x.1 = 2 then some (2, x.2.1, x.2.2)
            else if 0 ≤ a ∧ a < x.2.1.length then (forgetF k n a x.2.1).bind fun m2 =>
              if x.1 = 1 ∧ wrap64 (rd x.2.1 a + 1) < n.f2 then some (2, m2.set a.toNat (wrap64 (rd x.2.1 a + 1)), x.2.2) else some (x.1, m2, x.2.2)
            else none) (Evt.bind htk ?_) fun k => ?_) fun k => ?_
          · dsimp only
            by_cases c2 : r = 2
            · rw [if_pos c2]
              exact Evt.congr (Evt.const _) fun k => by rw [if_pos c2]
            · rw [if_neg c2]
              refine Evt.congr (p := fun k => (forgetF k n a (pre ++ (h :: α') ++ post)).bind _) (Evt.bind hfor ?_) fun k => by rw [if_neg c2, if_pos ⟨by omega, by simp; omega⟩]
              rw [hrd, hw]
              by_cases c3 : r = 1 ∧ h + 1 < n.f2
              · rw [if_pos c3]
                refine Evt.congr (Evt.const _) fun k => ?_
                rw [if_pos c3, show zs (1 + S x) = 0 :: zs (S x) by rw [Nat.add_comm]; rfl, set_mid pre 0 _ post a.toNat (by omega), hlx]
              · rw [if_neg c3]
                refine Evt.congr (Evt.const _) fun k => ?_
                rw [if_neg c3, show (h :: ν).length = 1 + S x by simp; omega]
          · rw [againF, hn3, if_pos (by simp)]
            rfl
          · rw [tickF, if_neg c1, if_neg c5, if_pos c6]
      · rw [if_neg c6]
        have hloop := loop_ev an (first := h) ht hS hn hF hT n.f3 [] pre post [] ν h a (wrap64 (a + 1)) 0 s rfl rfl hν ha (by rw [w64 (by omega) (by omega)]; simp; omega) rfl (by omega) hk
        rw [show (h :: ν).headD 0 = h from rfl, show (h :: ν).tail = ν from rfl, show (h :: ν).length = 1 + (n.f3.map S).sum by simp; omega]
        refine Evt.succ (p := fun k => listF an k n a (pre ++ (h :: ν) ++ post) s) (Evt.succ hloop fun k => ?_) fun k => ?_
        · rw [listF, if_pos ⟨by omega, by simp; omega⟩, rd_mid pre h ν post a ha]
          rfl
        · rw [tickF, if_neg c1, if_neg c5, if_neg c6]

theorem mem_sum {l : List Nat} {x : Nat} (h : x ∈ l) : x ≤ l.sum := by
  induction l with
  | nil => cases h
  | cons y l ih =>
    rcases List.mem_cons.mp h with rfl | h
    · simp
    · have := ih h
      simp
      omega
theorem tick_same : ∀ (d : Nat) (n : Nd), Good2 d n → szD d n ≤ 1000000 → Ticks an (Fit d) (T an d) n
  | 0, n, hg, hz => by
    have e : n.f3 = [] := hg.1
    exact node_ev an (F := fun _ _ => True) (by simp [e]) (by simp [e]) (by rw [e]; exact size_ev 0 n hg.1 hz) (by simp [e]) (by simp [e]) (by simp [e]) (fun h => h.elim (fun h => absurd h hg.2.1) (fun h => absurd h hg.2.2)) (fun h => absurd h hg.2.2) (by simp [e])
      (fun μ ⟨h, e1, h2, h3⟩ => ⟨h, [], e1, h2, h3, by rw [e]; rfl⟩)
  | d + 1, n, hg, hz => by
    have hz' : 1 + (n.f3.map (szD d)).sum ≤ 1000000 := hz
    have hsz : ∀ x ∈ n.f3, szD d x ≤ 1000000 := fun x hx => by
      have : szD d x ≤ (n.f3.map (szD d)).sum := mem_sum (List.mem_map_of_mem hx)
      omega
    have hl := szs_le d n.f3
    exact node_ev an (fun x hx => tick_same d x (hg.2.2 x hx) (hsz x hx)) (fun x hx => ⟨size_ev d x (hg.2.2 x hx).deep (hsz x hx), szD_pos d x⟩) (size_ev (d + 1) n hg.deep hz) (fun x hx μ => Fit.len d x μ) (fun x hx μ s => T_fit an d x (hg.2.2 x hx) μ s) (fun x hx μ s => T_res an d x (hg.2.2 x hx) μ s) hg.1 (fun h => (hg.2.1 h).2) (by omega) (fun μ h => h)
end
end Go.Proofs.Ytbpgfjfkogdolaa.TreeSameTreeAsks
