/- The reference's minds: what is remembered, as a tree; read from numbers and told as numbers. Under no condition but what stands at each. -/
import Derived.Test.YtbpgfjfkogdolaaTreeEvTreeTells
namespace Go.Proofs.Ytbpgfjfkogdolaa.TreeMindTreeTells
open Go Go.RowKit Go.Proofs.YtbpgfjfkogdolaaW.PrintWords Go.Proofs.YtbpgfjfkogdolaaW.PrintLast Go.Proofs.YtbpgfjfkogdolaaW.PrintMore Go.Proofs.Ytbpgfjfkogdolaa.PTreeTells Go.Proofs.Ytbpgfjfkogdolaa.Fnv Go.Proofs.Ytbpgfjfkogdolaa.TreePlainTreeTells Go.Proofs.Ytbpgfjfkogdolaa.TreeEvTreeTells Go.Proofs.Ytbpgfjfkogdolaa.TreeTTreeTells Go.Proofs.Ytbpgfjfkogdolaa.TreeRightTreeTells
set_option linter.unusedVariables false
set_option linter.unusedSimpArgs false
abbrev Md := S40
/-- A mind's numbers, the node's ahead of its kids'. -/
def flat : Nat → Md → List Int
  | 0, m => [m.f0]
  | d + 1, m => m.f0 :: (m.f1.map (flat d)).flatten
def formL (F : Nd → Md → Prop) : List Nd → List Md → Prop
  | [], ms => ms = []
  | x :: l, ms => ∃ y r, ms = y :: r ∧ F x y ∧ formL F l r
/-- A mind of a tree's form whose numbers fit. -/
def FormM : Nat → Nd → Md → Prop
  | 0, n, m => m.f1 = [] ∧ 0 ≤ m.f0 ∧ m.f0 ≤ most n
  | d + 1, n, m => 0 ≤ m.f0 ∧ m.f0 ≤ most n ∧ formL (FormM d) n.f3 m.f1
def blankM : Nat → Nd → Md
  | 0, _ => ⟨0, []⟩
  | d + 1, n => ⟨0, n.f3.map (blankM d)⟩
theorem formL_map {F : Nd → Md → Prop} {f : Nd → Md} : ∀ (l : List Nd), (∀ x ∈ l, F x (f x)) → formL F l (l.map f)
  | [], _ => rfl
  | x :: l, h => ⟨f x, l.map f, rfl, h x (by simp), formL_map l (fun y hy => h y (by simp [hy]))⟩
theorem FormM.blank : ∀ (d : Nat) (n : Nd), Good2 d n → FormM d n (blankM d n)
  | 0, n, h => ⟨rfl, by show (0 : Int) ≤ 0; omega, most_nn 0 n h⟩
  | d + 1, n, h => ⟨by show (0 : Int) ≤ 0; omega, most_nn (d + 1) n h, formL_map n.f3 fun x hx => FormM.blank d x (h.2.2 x hx)⟩
theorem formL_len {F : Nd → Md → Prop} : ∀ (l : List Nd) (ms : List Md), formL F l ms → ms.length = l.length
  | [], ms, h => by rw [show ms = [] from h]; rfl
  | x :: l, ms, ⟨y, r, e, _, h⟩ => by rw [e]; simp [formL_len l r h]
theorem formL_fit {F : Nd → Md → Prop} {G : Nd → List Int → Prop} {S : Nd → Nat} {f : Md → List Int} : ∀ (l : List Nd) (ms : List Md), (∀ x ∈ l, ∀ y, F x y → G x (f y) ∧ (f y).length = S x) → formL F l ms → fitL G S l (ms.map f).flatten
  | [], ms, _, h => by rw [show ms = [] from h]; rfl
  | x :: l, ms, hx, ⟨y, r, e, hy, h⟩ => by
    rw [e]
    exact ⟨f y, (r.map f).flatten, by simp, (hx x (by simp) y hy).2, (hx x (by simp) y hy).1, formL_fit l r (fun z hz => hx z (by simp [hz])) h⟩
theorem FormM.fit : ∀ (d : Nat) (n : Nd) (m : Md), FormM d n m → Fit d n (flat d m)
  | 0, n, m, h => ⟨m.f0, rfl, h.2.1, h.2.2⟩
  | d + 1, n, m, h => ⟨m.f0, (m.f1.map (flat d)).flatten, rfl, h.1, h.2.1, formL_fit n.f3 m.f1 (fun x hx y hy => ⟨FormM.fit d x y hy, Fit.len d x _ (FormM.fit d x y hy)⟩) h.2.2⟩
theorem blank_loop (d : Nat) (ih : ∀ n, Deep d n → szD d n ≤ 1000000 → Evt (fun k => tourref5_Blank.f k n.f0 n.f1 n.f2 n.f3) ((blankM d n).f0, (blankM d n).f1)) :
    ∀ (post pre : List Nd) (N i : Int) (out : List Md), (∀ x ∈ post, Deep d x ∧ szD d x ≤ 1000000) → N = pre.length + post.length → i = pre.length → out.length = i → N ≤ 1000000 → Evt (fun k => tourref5_Blank.l0 k (pre ++ post) N i 0 out) ((0 : Int), out ++ post.map (blankM d))
  | [], pre, N, i, out, _, hN, hi, _, _ => by
    refine Evt.succ (p := fun _ => some ((0 : Int), out)) (by simpa using Evt.const ((0 : Int), out)) fun k => ?_
    rw [tourref5_Blank.l0, if_neg (by simp at hN; omega)]
  | x :: post, pre, N, i, out, hx, hN, hi, ho, hb => by
    have hN' : N = pre.length + (post.length + 1) := by simpa using hN
    have h1 := ih x (hx x (by simp)).1 (hx x (by simp)).2
    have e : (⟨((blankM d x).f0, (blankM d x).f1).1, ((blankM d x).f0, (blankM d x).f1).2⟩ : Md) = blankM d x := by cases blankM d x; rfl
    have h2 := blank_loop d ih post (pre ++ [x]) N (wrap64 (i + 1)) (out ++ [blankM d x]) (fun y hy => hx y (by simp [hy])) (by simp; omega) (by rw [w64 (by omega) (by omega)]; simp; omega) (by rw [w64 (by omega) (by omega)]; simp; omega) hb
    rw [show pre ++ [x] ++ post = pre ++ x :: post by simp, show out ++ [blankM d x] ++ post.map (blankM d) = out ++ (x :: post).map (blankM d) by simp] at h2
    refine Evt.succ (p := fun k => (tourref5_Blank.f k x.f0 x.f1 x.f2 x.f3).bind fun bt => tourref5_Blank.l0 k (pre ++ x :: post) N (wrap64 (i + 1)) 0 (out ++ [(⟨bt.1, bt.2⟩ : Md)])) (Evt.bind h1 (Evt.congr h2 fun k => by rw [e])) fun k => ?_
    have hx0 : rd_T25 (pre ++ x :: post) i = x := rdN_at pre x post i hi
    rw [tourref5_Blank.l0, if_pos (by omega), if_pos (by omega), if_pos (by simp; omega), hx0]
    simp only [if_pos (show out.length < 4398046511104 by omega)]
theorem blank_ev : ∀ (d : Nat) (n : Nd), Deep d n → szD d n ≤ 1000000 → Evt (fun k => tourref5_Blank.f k n.f0 n.f1 n.f2 n.f3) ((blankM d n).f0, (blankM d n).f1)
  | 0, n, h, _ => by
    refine Evt.succ (p := fun k => tourref5_Blank.l0 k n.f3 (n.f3.length : Int) 0 0 ([] : List Md)) ?_ fun k => rfl
    rw [show n.f3 = [] from h]
    exact Evt.succ (p := fun _ => some ((0 : Int), ([] : List Md))) (Evt.const _) fun k => by rw [tourref5_Blank.l0, if_neg (by simp)]
  | d + 1, n, h, hs => by
    have hs' : 1 + (n.f3.map (szD d)).sum ≤ 1000000 := hs
    have hl := szs_le d n.f3
    have := blank_loop d (blank_ev d) n.f3 [] (n.f3.length : Int) 0 [] (fun x hx => ⟨h x hx, by have := TreeSameTreeTells.mem_sum (List.mem_map_of_mem (f := szD d) hx); omega⟩) (by simp) rfl rfl (by omega)
    exact Evt.succ (p := fun k => tourref5_Blank.l0 k n.f3 (n.f3.length : Int) 0 0 ([] : List Md)) this fun k => rfl
def DeepM : Nat → Md → Prop
  | 0, m => m.f1 = []
  | d + 1, m => ∀ x ∈ m.f1, DeepM d x
theorem formL_mem {F : Nd → Md → Prop} {G : Md → Prop} : ∀ (l : List Nd) (ms : List Md), (∀ x y, F x y → G y) → formL F l ms → ∀ y ∈ ms, G y
  | [], ms, _, h => by rw [show ms = [] from h]; simp
  | x :: l, ms, hx, ⟨y, r, e, hy, h⟩ => by
    intro z hz
    rw [e] at hz
    rcases List.mem_cons.mp hz with rfl | hz
    · exact hx x z hy
    · exact formL_mem l r hx h z hz
theorem FormM.deepM : ∀ (d : Nat) (n : Nd) (m : Md), FormM d n m → DeepM d m
  | 0, n, m, h => h.1
  | d + 1, n, m, h => formL_mem n.f3 m.f1 (fun x y hy => FormM.deepM d x y hy) h.2.2
theorem rdM_at (pre : List Md) (x : Md) (post : List Md) (i : Int) (h : i = pre.length) : rd_T40 (pre ++ x :: post) i = x := by
  subst h
  simp [rd_T40]
theorem list_loop (d : Nat) (ih : ∀ m, DeepM d m → (flat d m).length ≤ 1000000 → Evt (fun k => tourref5_Mind_List.f k m.f0 m.f1) (flat d m)) :
    ∀ (post pre : List Md) (N i : Int) (out : List Int), (∀ x ∈ post, DeepM d x) → N = pre.length + post.length → i = pre.length → N ≤ 1000000 → out.length + ((post.map (flat d)).flatten).length ≤ 1000000 → Evt (fun k => tourref5_Mind_List.l0 k out (pre ++ post) N i) (out ++ (post.map (flat d)).flatten)
  | [], pre, N, i, out, _, hN, hi, _, _ => by
    refine Evt.succ (p := fun _ => some out) (by simpa using Evt.const out) fun k => ?_
    rw [tourref5_Mind_List.l0, if_neg (by simp at hN; omega)]
  | x :: post, pre, N, i, out, hx, hN, hi, hb, hl => by
    have hN' : N = pre.length + (post.length + 1) := by simpa using hN
    have hl' : out.length + ((flat d x).length + ((post.map (flat d)).flatten).length) ≤ 1000000 := by simpa using hl
    have h1 := ih x (hx x (by simp)) (by omega)
    have h2 := list_loop d ih post (pre ++ [x]) N (wrap64 (i + 1)) (out ++ flat d x) (fun y hy => hx y (by simp [hy])) (by simp; omega) (by rw [w64 (by omega) (by omega)]; simp; omega) hb (by simp only [List.length_append]; omega)
    rw [show pre ++ [x] ++ post = pre ++ x :: post by simp, show out ++ flat d x ++ (post.map (flat d)).flatten = out ++ ((x :: post).map (flat d)).flatten by simp] at h2
    refine Evt.succ (p := fun k => (tourref5_Mind_List.f k x.f0 x.f1).bind fun t => if out.length + t.length < 17592186044416 then tourref5_Mind_List.l0 k (out ++ t) (pre ++ x :: post) N (wrap64 (i + 1)) else none) (Evt.bind h1 (Evt.congr h2 fun k => if_pos (by omega))) fun k => ?_
    rw [tourref5_Mind_List.l0, if_pos (by omega), if_pos (by omega), if_pos (by simp; omega), rdM_at pre x post i hi]
theorem list_ev : ∀ (d : Nat) (m : Md), DeepM d m → (flat d m).length ≤ 1000000 → Evt (fun k => tourref5_Mind_List.f k m.f0 m.f1) (flat d m)
  | 0, m, h, _ => by
    refine Evt.succ (p := fun k => tourref5_Mind_List.l0 k [m.f0] m.f1 (m.f1.length : Int) 0) ?_ fun k => rfl
    rw [show m.f1 = [] from h]
    exact Evt.succ (p := fun _ => some [m.f0]) (Evt.const _) fun k => by rw [tourref5_Mind_List.l0, if_neg (by simp)]
  | d + 1, m, h, hs => by
    have hs' : 1 + ((m.f1.map (flat d)).flatten).length ≤ 1000000 := by simpa [flat, Nat.add_comm] using hs
    have hl : m.f1.length ≤ ((m.f1.map (flat d)).flatten).length := by
      generalize m.f1 = l
      induction l with
      | nil => simp
      | cons x l ih => have : 0 < (flat d x).length := by cases d <;> simp [flat]
                       simp only [List.map_cons, List.flatten_cons, List.length_append, List.length_cons]; omega
    have := list_loop d (list_ev d) m.f1 [] (m.f1.length : Int) 0 [m.f0] h (by simp) rfl (by omega) (by simp only [List.length_cons, List.length_nil]; omega)
    exact Evt.succ (p := fun k => tourref5_Mind_List.l0 k [m.f0] m.f1 (m.f1.length : Int) 0) this fun k => rfl
end Go.Proofs.Ytbpgfjfkogdolaa.TreeMindTreeTells
/- The reference's Think, by a mind; that it is the plain walk. Under no condition but what stands at each. -/
namespace Go.Proofs.Ytbpgfjfkogdolaa.TreeThinkTreeTells
open Go Go.RowKit Go.Proofs.YtbpgfjfkogdolaaW.PrintWords Go.Proofs.YtbpgfjfkogdolaaW.PrintLast Go.Proofs.YtbpgfjfkogdolaaW.PrintMore Go.Proofs.Ytbpgfjfkogdolaa.PTreeTells Go.Proofs.Ytbpgfjfkogdolaa.Fnv Go.Proofs.Ytbpgfjfkogdolaa.TreePlainTreeTells Go.Proofs.Ytbpgfjfkogdolaa.TreeEvTreeTells Go.Proofs.Ytbpgfjfkogdolaa.TreeTTreeTells Go.Proofs.Ytbpgfjfkogdolaa.TreeRightTreeTells Go.Proofs.Ytbpgfjfkogdolaa.TreeMindTreeTells
set_option linter.unusedVariables false
set_option linter.unusedSimpArgs false
abbrev rdM := rd_T40
def flipV (r : Int) : Int := if r = 0 then 1 else if r = 1 then 0 else 2
section
variable {σ : Type} (an : σ → ByteArray → Int × σ)
def thinkL (Th : Nd → Md → σ → Int × Md × σ) (bl : Md) (kind : Int) : Nat → List Nd → List Md → σ → Int × Md × σ
  | i, x :: l, y :: r, s =>
    if (Th x y s).1 = 2 then (2, ⟨if kind = 3 ∨ kind = 4 then (i : Int) else 0, bl.f1.set i (Th x y s).2.1⟩, (Th x y s).2.2)
    else if (Th x y s).1 = onV kind then thinkL Th bl kind (i + 1) l r (Th x y s).2.2
    else ((Th x y s).1, bl, (Th x y s).2.2)
  | _, _, _, s => (onV kind, bl, s)
def thinkN (Th : Nd → Md → σ → Int × Md × σ) (bl : Md) (n : Nd) (m : Md) (s : σ) : Int × Md × σ :=
  if n.f0 = 1 ∨ n.f0 = 2 then (leafV n.f0 (an s n.f1).1, m, (an s n.f1).2)
  else if n.f0 = 5 then (flipV (Th (rdN n.f3 0) (rdM m.f1 0) s).1, ⟨0, [(Th (rdN n.f3 0) (rdM m.f1 0) s).2.1]⟩, (Th (rdN n.f3 0) (rdM m.f1 0) s).2.2)
  else if n.f0 = 6 then
    if (Th (rdN n.f3 0) (rdM m.f1 0) s).1 = 2 then (2, ⟨m.f0, [(Th (rdN n.f3 0) (rdM m.f1 0) s).2.1]⟩, (Th (rdN n.f3 0) (rdM m.f1 0) s).2.2)
    else if (Th (rdN n.f3 0) (rdM m.f1 0) s).1 = 1 ∧ m.f0 + 1 < n.f2 then (2, ⟨m.f0 + 1, bl.f1⟩, (Th (rdN n.f3 0) (rdM m.f1 0) s).2.2)
    else ((Th (rdN n.f3 0) (rdM m.f1 0) s).1, bl, (Th (rdN n.f3 0) (rdM m.f1 0) s).2.2)
  else thinkL Th bl n.f0 m.f0.toNat (n.f3.drop m.f0.toNat) (m.f1.drop m.f0.toNat) s
def thinkD : Nat → Nd → Md → σ → Int × Md × σ
  | 0, n => thinkN an (fun _ m s => (0, m, s)) (blankM 0 n) n
  | d + 1, n => thinkN an (thinkD d) (blankM (d + 1) n) n
/-- What a mind's numbers are after a step. -/
def Same3 (d : Nat) (n : Nd) (z : Int × Md × σ) (t : Int × List Int × σ) : Prop := t = (z.1, flat d z.2.1, z.2.2) ∧ FormM d n z.2.1
theorem flat_blank : ∀ (d : Nat) (n : Nd), flat d (blankM d n) = zs (szD d n)
  | 0, n => rfl
  | d + 1, n => by
    have h : ∀ l : List Nd, ((l.map (blankM d)).map (flat d)).flatten = zs (l.map (szD d)).sum := by
      intro l
      induction l with
      | nil => rfl
      | cons x l ih =>
        simp only [List.map_cons, List.flatten_cons, List.sum_cons, ih, flat_blank d x]
        simp [zs]
    show (0 : Int) :: ((n.f3.map (blankM d)).map (flat d)).flatten = zs (1 + (n.f3.map (szD d)).sum)
    rw [h, Nat.add_comm]
    rfl
theorem flat_len (d : Nat) (n : Nd) (m : Md) (h : FormM d n m) : (flat d m).length = szD d n := Fit.len d n _ (FormM.fit d n m h)
/-- The kids ahead of the first are passed over. -/
theorem kidsL_skip {T : Nd → List Int → σ → Int × List Int × σ} {S : Nd → Nat} {kind first : Int} {total : Nat} : ∀ (l1 l2 : List Nd) (i : Int) (ν1 ν2 : List Int) (nb : Nat) (s : σ), i + l1.length ≤ first → ν1.length = (l1.map S).sum →
    kidsL T S kind first total i (l1 ++ l2) (ν1 ++ ν2) nb s = kidsL T S kind first total (i + l1.length) l2 ν2 (nb + ν1.length) s
  | [], l2, i, ν1, ν2, nb, s, _, hν => by
    obtain rfl : ν1 = [] := List.length_eq_zero_iff.mp (by simpa using hν)
    simp
  | x :: l1, l2, i, ν1, ν2, nb, s, hi, hν => by
    have hi' : i + (l1.length + 1 : Nat) ≤ first := by simpa using hi
    have hν' : ν1.length = S x + (l1.map S).sum := by simpa using hν
    have h2 : (ν1 ++ ν2).drop (S x) = ν1.drop (S x) ++ ν2 := by rw [List.drop_append_of_le_length (by omega)]
    show kidsL T S kind first total i (x :: (l1 ++ l2)) (ν1 ++ ν2) nb s = _
    rw [kidsL, if_neg (by omega), h2, kidsL_skip l1 l2 (i + 1) (ν1.drop (S x)) ν2 (nb + S x) s (by omega) (by simp; omega)]
    have e1 : i + 1 + (l1.length : Int) = i + ((x :: l1).length : Int) := by simp; omega
    have e2 : nb + S x + (ν1.drop (S x)).length = nb + ν1.length := by simp; omega
    rw [e1, e2]
theorem flat_blanks (d : Nat) : ∀ l : List Nd, ((l.map (blankM d)).map (flat d)).flatten = zs (l.map (szD d)).sum
  | [] => rfl
  | x :: l => by
    simp only [List.map_cons, List.flatten_cons, List.sum_cons, flat_blanks d l, flat_blank d x]
    simp [zs]
theorem formL_app {F : Nd → Md → Prop} : ∀ (l1 l2 : List Nd) (r1 r2 : List Md), formL F l1 r1 → formL F l2 r2 → formL F (l1 ++ l2) (r1 ++ r2)
  | [], l2, r1, r2, h1, h2 => by rw [show r1 = [] from h1]; exact h2
  | x :: l1, l2, r1, r2, ⟨y, r, e, hy, h1⟩, h2 => ⟨y, r ++ r2, by rw [e]; rfl, hy, formL_app l1 l2 r r2 h1 h2⟩
theorem think_loop (d : Nat) (n : Nd) (hg : Good2 (d + 1) n) (ih : ∀ x ∈ n.f3, ∀ y s, FormM d x y → Same3 d x (thinkD an d x y s) (T an d x (flat d y) s)) (first : Int) :
    ∀ (l doneK : List Nd) (r : List Md) (i : Nat) (nb : Nat) (s : σ), n.f3 = doneK ++ l → formL (FormM d) l r → i = doneK.length → nb = (doneK.map (szD d)).sum → first ≤ i →
      Same3 (d + 1) n (thinkL (thinkD an d) (blankM (d + 1) n) n.f0 i l r s) (kidsL (T an d) (szD d) n.f0 first (1 + (n.f3.map (szD d)).sum) (i : Int) l (r.map (flat d)).flatten nb s)
  | [], doneK, r, i, nb, s, hl, hr, hi, hn, hf => by
    obtain rfl : r = [] := hr
    refine ⟨?_, FormM.blank (d + 1) n hg⟩
    show (onV n.f0, zs (1 + (n.f3.map (szD d)).sum), s) = (onV n.f0, flat (d + 1) (blankM (d + 1) n), s)
    rw [flat_blank]
    rfl
  | x :: l, doneK, r, i, nb, s, hl, ⟨y, r', e, hy, h5⟩, hi, hn, hf => by
    subst e
    have hx : x ∈ n.f3 := by rw [hl]; simp
    obtain ⟨hT, hF⟩ := ih x hx y s hy
    have hlen := flat_len d x y hy
    have e1 : ((y :: r').map (flat d)).flatten.take (szD d x) = flat d y := by simp only [List.map_cons, List.flatten_cons]; rw [← hlen, List.take_left]
    have e2 : ((y :: r').map (flat d)).flatten.drop (szD d x) = (r'.map (flat d)).flatten := by simp only [List.map_cons, List.flatten_cons]; rw [← hlen, List.drop_left]
    rw [kidsL, e1, e2, if_pos (show (i : Int) ≥ first by omega), hT]
    dsimp only
    rw [thinkL]
    by_cases h2 : (thinkD an d x y s).1 = 2
    · rw [if_pos h2, if_pos h2]
      have hset : (blankM (d + 1) n).f1.set i (thinkD an d x y s).2.1 = doneK.map (blankM d) ++ (thinkD an d x y s).2.1 :: l.map (blankM d) := by
        show (n.f3.map (blankM d)).set i _ = _
        rw [hl, List.map_append, List.map_cons, hi, List.set_append_right _ _ (by simp)]
        simp
      have hgk : ∀ z ∈ n.f3, FormM d z (blankM d z) := fun z hz => FormM.blank d z (hg.2.2 z hz)
      refine ⟨?_, ?_, ?_, ?_⟩
      · rw [hset]
        simp only [flat, List.map_append, List.map_cons, List.flatten_append, List.flatten_cons, flat_blanks]
        rw [hn]
        simp only [List.append_assoc]
      · dsimp only; split <;> omega
      · dsimp only
        split
        · rename_i h34
          unfold most
          rw [if_pos h34, hl]
          unfold mx
          simp
          split <;> omega
        · exact most_nn (d + 1) n hg
      · dsimp only
        rw [hset, hl]
        exact formL_app _ _ _ _ (formL_map doneK fun z hz => hgk z (by rw [hl]; simp [hz])) ⟨_, _, rfl, hF, formL_map l fun z hz => hgk z (by rw [hl]; simp [hz])⟩
    · rw [if_neg h2, if_neg h2]
      by_cases ho : (thinkD an d x y s).1 = onV n.f0
      · rw [if_pos ho, if_pos ho]
        have := think_loop d n hg ih first l (doneK ++ [x]) r' (i + 1) (nb + szD d x) (thinkD an d x y s).2.2 (by rw [hl]; simp) h5 (by simp; omega) (by simp [hn]) (by omega)
        exact this
      · rw [if_neg ho, if_neg ho]
        refine ⟨?_, FormM.blank (d + 1) n hg⟩
        rw [flat_blank]
        rfl
theorem formL_split {F : Nd → Md → Prop} : ∀ (j : Nat) (l : List Nd) (r : List Md), formL F l r → formL F (l.take j) (r.take j) ∧ formL F (l.drop j) (r.drop j)
  | 0, l, r, h => ⟨by simp [formL], by simpa using h⟩
  | j + 1, [], r, h => by rw [show r = [] from h]; exact ⟨rfl, rfl⟩
  | j + 1, x :: l, r, ⟨y, r', e, hy, h⟩ => by
    rw [e]
    obtain ⟨h1, h2⟩ := formL_split j l r' h
    exact ⟨⟨y, r'.take j, rfl, hy, h1⟩, h2⟩
theorem formL_one {F : Nd → Md → Prop} {x : Nd} {r : List Md} (h : formL F [x] r) : ∃ y, r = [y] ∧ F x y := by
  obtain ⟨y, r', e, hy, h⟩ := h
  rw [show r' = [] from h] at e
  exact ⟨y, e, hy⟩
theorem think_same : ∀ (d : Nat) (n : Nd), Good2 d n → ∀ (m : Md) (s : σ), FormM d n m → Same3 d n (thinkD an d n m s) (T an d n (flat d m) s)
  | 0, n, hg, m, s, hm => by
    unfold thinkD thinkN T nodeT
    by_cases c1 : n.f0 = 1 ∨ n.f0 = 2
    · rw [if_pos c1, if_pos c1]
      exact ⟨rfl, hm⟩
    · rw [if_neg c1, if_neg c1, if_neg hg.2.1, if_neg hg.2.1, if_neg hg.2.2, if_neg hg.2.2, hg.1, hm.1]
      simp only [List.drop_nil]
      refine ⟨?_, FormM.blank 0 n hg⟩
      rfl
  | d + 1, n, hg, m, s, hm => by
    have ih : ∀ x ∈ n.f3, ∀ y s, FormM d x y → Same3 d x (thinkD an d x y s) (T an d x (flat d y) s) := fun x hx y s hy => think_same d x (hg.2.2 x hx) y s hy
    have hmost := most_nn (d + 1) n hg
    have hflat : flat (d + 1) m = m.f0 :: (m.f1.map (flat d)).flatten := rfl
    obtain ⟨h0, h1, hk⟩ := hm
    unfold thinkD thinkN T nodeT
    rw [hflat]
    by_cases c1 : n.f0 = 1 ∨ n.f0 = 2
    · rw [if_pos c1, if_pos c1]
      exact ⟨rfl, h0, h1, hk⟩
    · rw [if_neg c1, if_neg c1]
      by_cases c5 : n.f0 = 5
      · rw [if_pos c5, if_pos c5]
        have hl := hg.1 (.inl c5)
        have hz : most n = 0 := by unfold most; rw [if_neg (by omega), if_neg (by omega)]
        match hn3 : n.f3, hl with
        | [x], _ =>
          have hx : x ∈ n.f3 := by simp [hn3]
          rw [hn3] at hk
          obtain ⟨y, hy1, hy⟩ := formL_one hk
          obtain ⟨hT, hF⟩ := ih x hx y s hy
          have hr := T_res an d x (hg.2.2 x hx) (flat d y) s
          rw [hy1]
          have e1 : (([y].map (flat d)).flatten) = flat d y := by simp
          rw [e1, show rdN [x] 0 = x from rfl, show rdM [y] 0 = y from rfl, show (m.f0 :: flat d y).tail = flat d y from rfl, show (m.f0 :: flat d y).headD 0 = m.f0 from rfl]
          rw [hT] at hr ⊢
          dsimp only at hr ⊢
          refine ⟨?_, by show (0 : Int) ≤ 0; omega, hmost, by dsimp only; rw [hn3]; exact ⟨_, [], rfl, hF, rfl⟩⟩
          have hm0 : m.f0 = 0 := by omega
          rw [hm0]
          have e2 : flipV (thinkD an d x y s).1 = if (thinkD an d x y s).1 = 2 then 2 else 1 - (thinkD an d x y s).1 := by
            unfold flipV
            rcases hr with h | h | h <;> rw [h] <;> rfl
          rw [e2]
          simp [flat]
      · rw [if_neg c5, if_neg c5]
        by_cases c6 : n.f0 = 6
        · rw [if_pos c6, if_pos c6]
          have hl := hg.1 (.inr c6)
          have hz : most n = n.f2 - 1 := by unfold most; rw [if_neg (by omega), if_pos c6]
          match hn3 : n.f3, hl with
          | [x], _ =>
            have hx : x ∈ n.f3 := by simp [hn3]
            rw [hn3] at hk
            obtain ⟨y, hy1, hy⟩ := formL_one hk
            obtain ⟨hT, hF⟩ := ih x hx y s hy
            have hlen := flat_len d x y hy
            rw [hy1]
            have e1 : (([y].map (flat d)).flatten) = flat d y := by simp
            rw [e1, show rdN [x] 0 = x from rfl, show rdM [y] 0 = y from rfl, show (m.f0 :: flat d y).tail = flat d y from rfl, show (m.f0 :: flat d y).headD 0 = m.f0 from rfl]
            rw [hT]
            dsimp only
            have hbl : FormM (d + 1) n (blankM (d + 1) n) := FormM.blank (d + 1) n hg
            by_cases c2 : (thinkD an d x y s).1 = 2
            · rw [if_pos c2, if_pos c2]
              exact ⟨by simp [flat], h0, h1, by dsimp only; rw [hn3]; exact ⟨_, [], rfl, hF, rfl⟩⟩
            · rw [if_neg c2, if_neg c2]
              by_cases c3 : (thinkD an d x y s).1 = 1 ∧ m.f0 + 1 < n.f2
              · rw [if_pos c3, if_pos c3]
                refine ⟨?_, by dsimp only; omega, by dsimp only; omega, hbl.2.2⟩
                have e3 : (((blankM (d + 1) n).f1).map (flat d)).flatten = zs (n.f3.map (szD d)).sum := flat_blanks d n.f3
                show _ = (2, (m.f0 + 1) :: (((blankM (d + 1) n).f1).map (flat d)).flatten, _)
                rw [e3, hn3, hlen]
                simp
              · rw [if_neg c3, if_neg c3]
                refine ⟨?_, hbl⟩
                have e3 : (m.f0 :: flat d y).length = szD (d + 1) n := by simp [szD, hn3, hlen, Nat.add_comm]
                rw [flat_blank, e3]
        · rw [if_neg c6, if_neg c6]
          have hj : m.f0.toNat ≤ n.f3.length := by
            unfold most at h1
            split at h1
            · unfold mx at h1; split at h1 <;> omega
            · first | omega | (rw [if_neg c6] at h1; omega)
          have hlenm := formL_len _ _ hk
          obtain ⟨hk1, hk2⟩ := formL_split m.f0.toNat n.f3 m.f1 hk
          have hν1 : ((m.f1.take m.f0.toNat).map (flat d)).flatten.length = ((n.f3.take m.f0.toNat).map (szD d)).sum :=
            fitL_len _ _ (formL_fit (G := Fit d) (S := szD d) (n.f3.take m.f0.toNat) (m.f1.take m.f0.toNat) (fun x hx y hy => ⟨FormM.fit d x y hy, Fit.len d x _ (FormM.fit d x y hy)⟩) hk1)
          have htot : (m.f0 :: (m.f1.map (flat d)).flatten).length = 1 + (n.f3.map (szD d)).sum := by
            have := flat_len (d + 1) n m ⟨h0, h1, hk⟩
            rw [hflat] at this
            exact this
          have hsplit : (m.f1.map (flat d)).flatten = ((m.f1.take m.f0.toNat).map (flat d)).flatten ++ ((m.f1.drop m.f0.toNat).map (flat d)).flatten := by
            rw [← List.flatten_append, ← List.map_append, List.take_append_drop]
          have htl : ((n.f3.take m.f0.toNat).length : Int) = m.f0 := by rw [List.length_take]; omega
          have hskip := kidsL_skip (T := T an d) (S := szD d) (kind := n.f0) (first := m.f0) (total := 1 + (n.f3.map (szD d)).sum) (n.f3.take m.f0.toNat) (n.f3.drop m.f0.toNat) 0 ((m.f1.take m.f0.toNat).map (flat d)).flatten ((m.f1.drop m.f0.toNat).map (flat d)).flatten 0 s (by omega) hν1
          rw [List.take_append_drop, ← hsplit] at hskip
          rw [htot, show (m.f0 :: (m.f1.map (flat d)).flatten).headD 0 = m.f0 from rfl, show (m.f0 :: (m.f1.map (flat d)).flatten).tail = (m.f1.map (flat d)).flatten from rfl, hskip]
          have := think_loop an d n hg ih m.f0 (n.f3.drop m.f0.toNat) (n.f3.take m.f0.toNat) (m.f1.drop m.f0.toNat) m.f0.toNat (0 + ((m.f1.take m.f0.toNat).map (flat d)).flatten.length) s (List.take_append_drop _ _).symm hk2 (by rw [List.length_take]; omega) (by rw [hν1]; simp) (by omega)
          rw [show (m.f0.toNat : Int) = 0 + ((n.f3.take m.f0.toNat).length : Int) by omega] at this
          exact this
end
end Go.Proofs.Ytbpgfjfkogdolaa.TreeThinkTreeTells
/- A mind read from numbers: exactly where they fit. Under no condition but what stands at each. -/
namespace Go.Proofs.Ytbpgfjfkogdolaa.TreeMindOfTreeTells
open Go Go.RowKit Go.Proofs.YtbpgfjfkogdolaaW.PrintWords Go.Proofs.YtbpgfjfkogdolaaW.PrintLast Go.Proofs.YtbpgfjfkogdolaaW.PrintMore Go.Proofs.Ytbpgfjfkogdolaa.PTreeTells Go.Proofs.Ytbpgfjfkogdolaa.Fnv Go.Proofs.Ytbpgfjfkogdolaa.TreePlainTreeTells Go.Proofs.Ytbpgfjfkogdolaa.TreeEvTreeTells Go.Proofs.Ytbpgfjfkogdolaa.TreeTTreeTells Go.Proofs.Ytbpgfjfkogdolaa.TreeRightTreeTells Go.Proofs.Ytbpgfjfkogdolaa.TreeMindTreeTells
set_option linter.unusedVariables false
set_option linter.unusedSimpArgs false
/-- What MindOf answers: right where the numbers begin with a row that fits, and then that row read. -/
def Reads (d : Nat) (n : Nd) (l : List Int) (m : Md) (left : List Int) (b : Bool) : Prop :=
  (b = true → FormM d n m ∧ l = flat d m ++ left) ∧ ∀ μ rest, l = μ ++ rest → Fit d n μ → b = true
theorem mind_loop (d : Nat) (ih : ∀ n l, Well d n → szD d n ≤ 1000000 → ∃ m left b, Evt (fun k => tourref5_MindOf.f k n.f0 n.f1 n.f2 n.f3 l) (m.f0, m.f1, left, b) ∧ Reads d n l m left b) :
    ∀ (post pre : List Nd) (l : List Int) (b : Bool) (N i h : Int) (out : List Md), (∀ x ∈ post, Well d x ∧ szD d x ≤ 1000000) → N = pre.length + post.length → i = pre.length → out.length = i → N ≤ 1000000 →
      ∃ out' left b', Evt (fun k => tourref5_MindOf.l0 k l b (pre ++ post) N i h out) (h, out', left, b') ∧ (b' = true → b = true ∧ ∃ ms, out' = out ++ ms ∧ formL (FormM d) post ms ∧ l = (ms.map (flat d)).flatten ++ left) ∧ (b = true → ∀ ν rest, l = ν ++ rest → fitL (Fit d) (szD d) post ν → b' = true)
  | [], pre, l, b, N, i, h, out, _, hN, hi, _, _ => by
    refine ⟨out, l, b, Evt.succ (p := fun _ => some (h, out, l, b)) (Evt.const _) fun k => by rw [tourref5_MindOf.l0, if_neg (by simp at hN; omega)], fun hb => ⟨hb, [], by simp, rfl, rfl⟩, fun hb _ _ _ _ => hb⟩
  | x :: post, pre, l, b, N, i, h, out, hx, hN, hi, ho, hb => by
    have hN' : N = pre.length + (post.length + 1) := by simpa using hN
    obtain ⟨m, left, bm, hev, hr1, hr2⟩ := ih x l (hx x (by simp)).1 (hx x (by simp)).2
    have hx0 : rd_T25 (pre ++ x :: post) i = x := rdN_at pre x post i hi
    have e : (⟨(m.f0, m.f1, left, bm).1, (m.f0, m.f1, left, bm).2.1⟩ : Md) = m := by cases m; rfl
    have hhead : ∀ k, tourref5_MindOf.l0 (k + 1) l b (pre ++ x :: post) N i h out = (tourref5_MindOf.f k x.f0 x.f1 x.f2 x.f3 l).bind fun bt => if bt.2.2.2 = true then (if out.length < 4398046511104 then tourref5_MindOf.l0 k bt.2.2.1 b (pre ++ x :: post) N (wrap64 (i + 1)) h (out ++ [(⟨bt.1, bt.2.1⟩ : Md)]) else none) else some (h, out, ([] : List Int), false) := fun k => by
      rw [tourref5_MindOf.l0, if_pos (by omega), if_pos (by omega), if_pos (by simp; omega), hx0]
    by_cases hbm : bm = true
    · obtain ⟨hF, hl⟩ := hr1 hbm
      obtain ⟨out', left', b', h1, h2, h3⟩ := mind_loop d ih post (pre ++ [x]) left b N (wrap64 (i + 1)) h (out ++ [m]) (fun y hy => hx y (by simp [hy])) (by simp; omega) (by rw [w64 (by omega) (by omega)]; simp; omega) (by rw [w64 (by omega) (by omega)]; simp; omega) hb
      rw [show pre ++ [x] ++ post = pre ++ x :: post by simp] at h1
      refine ⟨out', left', b', Evt.succ (Evt.bind hev (Evt.congr h1 fun k => ?_)) hhead, fun hb' => ?_, fun hb1 ν rest hν hfit => ?_⟩
      · rw [if_pos hbm, if_pos (by omega), e]
      · obtain ⟨h4, ms, h5, h6, h7⟩ := h2 hb'
        exact ⟨h4, m :: ms, by rw [h5]; simp, ⟨m, ms, rfl, hF, h6⟩, by rw [hl, h7]; simp⟩
      · obtain ⟨α, β, e1, e2, e3, e4⟩ := hfit
        refine h3 hb1 β rest ?_ e4
        have hlen := Fit.len d x _ (FormM.fit d x m hF)
        have e5 : flat d m ++ left = α ++ (β ++ rest) := by rw [← hl, hν, e1]; simp
        exact (List.append_inj e5 (by rw [hlen, e2])).2
    · refine ⟨out, [], false, Evt.succ (Evt.bind hev (Evt.congr (Evt.const _) fun k => if_neg hbm)) hhead, fun hb' => (by cases hb'), fun hb1 ν rest hν hfit => ?_⟩
      obtain ⟨α, β, e1, e2, e3, e4⟩ := hfit
      exact absurd (hr2 α (β ++ rest) (by rw [hν, e1]; simp) e3) hbm
theorem mind_head {n : Nd} {h : Int} {l : List Int} {A : Int × List Md × List Int × Bool} (h1 : One n) (hk : n.f3.length ≤ 1000000) (hl : Evt (fun k => tourref5_MindOf.l0 k l (decide (0 ≤ h ∧ h ≤ most n)) n.f3 (n.f3.length : Int) 0 h []) A) : Evt (fun k => tourref5_MindOf.f k n.f0 n.f1 n.f2 n.f3 (h :: l)) A := by
  have hj3 : Evt (fun k => tourref5_MindOf.j3 k (h :: l) (decide (0 ≤ h ∧ h ≤ most n)) n.f0 n.f1 n.f2 n.f3 h) A := hl.succ fun k => by
    rw [tourref5_MindOf.j3, if_pos (by simp only [List.length_cons]; omega)]
    rfl
  have hj2 : Evt (fun k => tourref5_MindOf.j2 k (h :: l) (most n) n.f0 n.f1 n.f2 n.f3 h) A := hj3.succ fun k => by
    rw [tourref5_MindOf.j2]
    by_cases c : h ≥ 0
    · rw [if_pos c, decide_eq_decide.mpr (show h ≤ most n ↔ 0 ≤ h ∧ h ≤ most n from ⟨fun q => ⟨c, q⟩, fun q => q.2⟩)]
    · rw [if_neg c, decide_eq_false (fun q => c q.1)]
  have hw1 : wrap64 ((n.f3.length : Int) - 1) = n.f3.length - 1 := w64 (by omega) (by omega)
  have hj0 : Evt (fun k => tourref5_MindOf.j0 k (h :: l) 0 (decide (n.f0 = 3 ∨ n.f0 = 4)) n.f0 n.f1 n.f2 n.f3 h) A := by
    by_cases h34 : n.f0 = 3 ∨ n.f0 = 4
    · have hm : most n = mx 0 ((n.f3.length : Int) - 1) := by unfold most; rw [if_pos h34]; unfold mx; split <;> split <;> omega
      refine Evt.succ (p := fun k => tourref5_MindOf.j1 k (h :: l) (mx 0 (wrap64 ((n.f3.length : Int) - 1))) n.f0 n.f1 n.f2 n.f3 h) ?_ fun k => by rw [tourref5_MindOf.j0, if_pos (by simpa using h34)]
      rw [hw1, ← hm]
      exact hj2.succ fun k => by rw [tourref5_MindOf.j1, if_neg (by omega)]
    · refine Evt.succ (p := fun k => tourref5_MindOf.j1 k (h :: l) 0 n.f0 n.f1 n.f2 n.f3 h) ?_ fun k => by rw [tourref5_MindOf.j0, if_neg (by simpa using h34)]
      by_cases c6 : n.f0 = 6
      · have h62 := h1.2.2.2.2 c6
        have hm : most n = wrap64 (n.f2 - 1) := by unfold most; rw [if_neg h34, if_pos c6, w64 (by omega) (by omega)]
        exact hj2.succ fun k => by rw [tourref5_MindOf.j1, if_pos c6, hm]
      · have hm : most n = 0 := by unfold most; rw [if_neg h34, if_neg c6]
        exact hj2.succ fun k => by rw [tourref5_MindOf.j1, if_neg c6, hm]
  refine hj0.succ fun k => ?_
  rw [tourref5_MindOf.f, if_neg (by simp only [List.length_cons]; omega), if_pos (by simp only [List.length_cons]; omega), show rd (h :: l) 0 = h from rfl]
  by_cases c3 : n.f0 = 3
  · rw [if_pos c3, show decide (n.f0 = 3 ∨ n.f0 = 4) = true from decide_eq_true (.inl c3)]
  · rw [if_neg c3, show (n.f0 == 4) = decide (n.f0 = 3 ∨ n.f0 = 4) by rw [decide_eq_decide.mpr (show (n.f0 = 3 ∨ n.f0 = 4) ↔ n.f0 = 4 by simp [c3])]; rfl]
theorem mind_ev : ∀ (d : Nat) (n : Nd) (l : List Int), Well d n → szD d n ≤ 1000000 → ∃ m left b, Evt (fun k => tourref5_MindOf.f k n.f0 n.f1 n.f2 n.f3 l) (m.f0, m.f1, left, b) ∧ Reads d n l m left b
  | d, n, [], hw, hs => by
    refine ⟨⟨0, []⟩, [], false, Evt.succ (p := fun _ => some ((0 : Int), ([] : List Md), ([] : List Int), false)) (Evt.const _) fun k => by rw [tourref5_MindOf.f, if_pos (by simp)], (fun hb => by cases hb), fun μ rest hl hf => ?_⟩
    have hlen := Fit.len d n μ hf
    have := szD_pos d n
    have h0 := congrArg List.length hl
    simp at h0
    omega
  | 0, n, h :: l, hw, hs => by
    refine ⟨⟨h, []⟩, l, decide (0 ≤ h ∧ h ≤ most n), mind_head hw.1 (by rw [hw.2]; simp) (by rw [hw.2]; exact Evt.succ (p := fun _ => some (h, ([] : List Md), l, decide (0 ≤ h ∧ h ≤ most n))) (Evt.const _) fun k => by rw [tourref5_MindOf.l0, if_neg (by simp)]), fun hb => ?_, fun μ rest hl hf => ?_⟩
    · have := of_decide_eq_true hb
      exact ⟨⟨rfl, this.1, this.2⟩, rfl⟩
    · obtain ⟨h', e, h1, h2⟩ := hf
      rw [e] at hl
      injection hl with e1 _
      exact decide_eq_true ⟨by omega, by omega⟩
  | d + 1, n, h :: l, hw, hs => by
    have hs' : 1 + (n.f3.map (szD d)).sum ≤ 1000000 := hs
    have hl := szs_le d n.f3
    obtain ⟨out', left, b', h1, h2, h3⟩ := mind_loop d (mind_ev d) n.f3 [] l (decide (0 ≤ h ∧ h ≤ most n)) (n.f3.length : Int) 0 h [] (fun x hx => ⟨hw.2 x hx, by have := TreeSameTreeTells.mem_sum (List.mem_map_of_mem (f := szD d) hx); omega⟩) (by simp) rfl rfl (by omega)
    refine ⟨⟨h, out'⟩, left, b', mind_head hw.1 (by omega) h1, fun hb => ?_, fun μ rest hl hf => ?_⟩
    · obtain ⟨h4, ms, h5, h6, h7⟩ := h2 hb
      have := of_decide_eq_true h4
      rw [List.nil_append] at h5
      subst h5
      exact ⟨⟨this.1, this.2, h6⟩, by rw [h7]; rfl⟩
    · obtain ⟨h', ν, e, h4, h5, h6⟩ := hf
      rw [e] at hl
      injection hl with e1 e2
      exact h3 (decide_eq_true ⟨by omega, by omega⟩) ν rest e2 h6
end Go.Proofs.Ytbpgfjfkogdolaa.TreeMindOfTreeTells
/- tree.fits, exactly where the numbers fit. Under no condition but what stands at each. -/
namespace Go.Proofs.Ytbpgfjfkogdolaa.TreeFitsTreeTells
open Go Go.RowKit Go.Proofs.YtbpgfjfkogdolaaW.PrintWords Go.Proofs.YtbpgfjfkogdolaaW.PrintLast Go.Proofs.YtbpgfjfkogdolaaW.PrintMore Go.Proofs.Ytbpgfjfkogdolaa.PTreeTells Go.Proofs.Ytbpgfjfkogdolaa.Fnv Go.Proofs.Ytbpgfjfkogdolaa.TreePlainTreeTells Go.Proofs.Ytbpgfjfkogdolaa.TreeEvTreeTells Go.Proofs.Ytbpgfjfkogdolaa.TreeTTreeTells Go.Proofs.Ytbpgfjfkogdolaa.TreeRightTreeTells
set_option linter.unusedVariables false
set_option linter.unusedSimpArgs false
theorem fits_no {n : Nd} {h : Int} {l : List Int} (hh : ¬ (0 ≤ h ∧ h ≤ most n)) (hk : n.f3.length ≤ 1000000) (h6 : n.f0 = 6 → 1 ≤ n.f2 ∧ n.f2 ≤ 1000) : Evt (fun k => tree_fits.f k n.f0 n.f1 n.f2 n.f3 (h :: l)) false := by
  have hj2 : Evt (fun k => tree_fits.j2 k (h :: l) true n.f0 n.f1 n.f2 n.f3) false := Evt.succ (p := fun _ => some false) (Evt.const _) fun k => by rw [tree_fits.j2, if_pos rfl]
  have hj1 : Evt (fun k => tree_fits.j1 k (h :: l) (most n) n.f0 n.f1 n.f2 n.f3) false := hj2.succ fun k => by
    rw [tree_fits.j1, if_pos (by simp only [List.length_cons]; omega), show rd (h :: l) 0 = h from rfl]
    by_cases c : h < 0
    · rw [if_pos c]
    · rw [if_neg c, show decide (h > most n) = true from decide_eq_true (by omega)]
  have hw1 : wrap64 ((n.f3.length : Int) - 1) = n.f3.length - 1 := w64 (by omega) (by omega)
  have hj0 : Evt (fun k => tree_fits.j0 k (h :: l) 0 n.f0 (decide (n.f0 = 3 ∨ n.f0 = 4)) n.f0 n.f1 n.f2 n.f3) false := by
    by_cases h34 : n.f0 = 3 ∨ n.f0 = 4
    · have hm : most n = mx (wrap64 ((n.f3.length : Int) - 1)) 0 := by unfold most; rw [if_pos h34, hw1]
      exact hj1.succ fun k => by rw [tree_fits.j0, if_pos (by simpa using h34), hm]
    · by_cases c6 : n.f0 = 6
      · have := h6 c6
        have hm : most n = wrap64 (n.f2 - 1) := by unfold most; rw [if_neg h34, if_pos c6, w64 (by omega) (by omega)]
        exact hj1.succ fun k => by rw [tree_fits.j0, if_neg (by simpa using h34), if_pos c6, hm]
      · have hm : most n = 0 := by unfold most; rw [if_neg h34, if_neg c6]
        exact hj1.succ fun k => by rw [tree_fits.j0, if_neg (by simpa using h34), if_neg c6, hm]
  refine hj0.succ fun k => ?_
  by_cases c3 : n.f0 = 3
  · rw [tree_fits.f, if_pos c3, show (n.f0 == 3) = decide (n.f0 = 3 ∨ n.f0 = 4) by simp [c3]]
  · rw [tree_fits.f, if_neg c3, show (n.f0 == 4) = decide (n.f0 = 3 ∨ n.f0 = 4) by rw [decide_eq_decide.mpr (show (n.f0 = 3 ∨ n.f0 = 4) ↔ n.f0 = 4 by simp [c3])]; rfl]
theorem fits_loop2 (d : Nat) (ih : ∀ (n : Nd) (μ post : List Int), Well d n → μ.length = szD d n → szD d n ≤ 1000000 → μ.length + post.length ≤ 1000000 → ∃ b, Evt (fun k => tree_fits.f k n.f0 n.f1 n.f2 n.f3 (μ ++ post)) b ∧ (b = true → Fit d n μ)) :
    ∀ (rest doneK : List Nd) (pre ν post : List Int) (at_ i : Int) (N : Nat), (∀ x ∈ rest, Well d x) → ν.length = (rest.map (szD d)).sum → at_ = pre.length → i = doneK.length → N = doneK.length + rest.length → N ≤ 1000000 → pre.length + ν.length + post.length ≤ 1000000 → ∃ b, Evt (fun k => tree_fits.l0 k (pre ++ ν ++ post) at_ (doneK ++ rest) (N : Int) i) b ∧ (b = true → fitL (Fit d) (szD d) rest ν)
  | [], doneK, pre, ν, post, at_, i, N, _, hν, _, hi, hN, _, _ =>
    ⟨true, Evt.succ (p := fun _ => some true) (Evt.const _) fun k => by rw [tree_fits.l0, if_neg (by simp at hN; omega)], fun _ => List.length_eq_zero_iff.mp (by simpa using hν)⟩
  | x :: rest, doneK, pre, ν, post, at_, i, N, hw, hν, ha, hi, hN, hN1, hl => by
    have hx := hw x (by simp)
    have hN' : N = doneK.length + (rest.length + 1) := by simpa using hN
    have hν' : ν.length = szD d x + (rest.map (szD d)).sum := by simpa using hν
    obtain ⟨α, β, rfl, hα⟩ : ∃ α β, ν = α ++ β ∧ α.length = szD d x := ⟨ν.take (szD d x), ν.drop (szD d x), (List.take_append_drop _ _).symm, by simp; omega⟩
    have hβ : β.length = (rest.map (szD d)).sum := by simp at hν'; omega
    have hl' : pre.length + (α.length + β.length) + post.length ≤ 1000000 := by simpa using hl
    have hdrop : (pre ++ (α ++ β) ++ post).drop at_.toNat = α ++ (β ++ post) := by
      rw [show pre ++ (α ++ β) ++ post = pre ++ (α ++ (β ++ post)) by simp, show at_.toNat = pre.length by omega, List.drop_left]
    obtain ⟨b1, h1, h2⟩ := ih x α (β ++ post) hx hα (by omega) (by simp; omega)
    have hhead : ∀ k, tree_fits.l0 (k + 1) (pre ++ (α ++ β) ++ post) at_ (doneK ++ x :: rest) (N : Int) i = (tree_fits.f k x.f0 x.f1 x.f2 x.f3 (α ++ (β ++ post))).bind fun b => if b = true then (sizeF k x).bind fun z => tree_fits.l0 k (pre ++ (α ++ β) ++ post) (wrap64 (at_ + z)) (doneK ++ x :: rest) (N : Int) (wrap64 (i + 1)) else some false := fun k => by
      have hx0 : rd_T25 (doneK ++ x :: rest) i = x := rdN_at doneK x rest i hi
      rw [tree_fits.l0, if_pos (by omega), if_pos (by omega), if_pos (by simp; omega), if_pos (by omega), if_pos (by simp; omega), hx0, hdrop]
      rfl
    by_cases hb : b1 = true
    · obtain ⟨b2, h3, h4⟩ := fits_loop2 d ih rest (doneK ++ [x]) (pre ++ α) β post (wrap64 (at_ + (szD d x : Int))) (wrap64 (i + 1)) N (fun y hy => hw y (by simp [hy])) hβ (by rw [w64 (by omega) (by omega)]; simp; omega) (by rw [w64 (by omega) (by omega)]; simp; omega) (by simp; omega) hN1 (by simp; omega)
      rw [show pre ++ α ++ β ++ post = pre ++ (α ++ β) ++ post by simp, show doneK ++ [x] ++ rest = doneK ++ x :: rest by simp] at h3
      exact ⟨b2, Evt.succ (Evt.bind h1 (Evt.congr (Evt.bind (size_ev d x (Well.good d x hx).deep (by omega)) h3) fun k => if_pos hb)) hhead, fun hb2 => ⟨α, β, rfl, hα, h2 hb, h4 hb2⟩⟩
    · exact ⟨false, Evt.succ (Evt.bind h1 (Evt.congr (Evt.const _) fun k => if_neg hb)) hhead, fun h => by cases h⟩
theorem fits_ev2 : ∀ (d : Nat) (n : Nd) (μ post : List Int), Well d n → μ.length = szD d n → szD d n ≤ 1000000 → μ.length + post.length ≤ 1000000 → ∃ b, Evt (fun k => tree_fits.f k n.f0 n.f1 n.f2 n.f3 (μ ++ post)) b ∧ (b = true → Fit d n μ)
  | d, n, [], post, hw, hμ, _, _ => by have := szD_pos d n; simp at hμ; omega
  | 0, n, h :: μ, post, hw, hμ, hs, hl => by
    obtain rfl : μ = [] := List.length_eq_zero_iff.mp (by simpa [szD] using hμ)
    by_cases c : 0 ≤ h ∧ h ≤ most n
    · exact ⟨true, fits_ev 0 n [h] post hw ⟨h, rfl, c.1, c.2⟩ hs hl, fun _ => ⟨h, rfl, c.1, c.2⟩⟩
    · exact ⟨false, fits_no c (by rw [hw.2]; simp) hw.1.2.2.2.2, fun h => by cases h⟩
  | d + 1, n, h :: μ, post, hw, hμ, hs, hl => by
    have hs' : 1 + (n.f3.map (szD d)).sum ≤ 1000000 := hs
    have hμ' : μ.length + 1 = 1 + (n.f3.map (szD d)).sum := hμ
    have hl' : μ.length + 1 + post.length ≤ 1000000 := by simpa using hl
    have hll := szs_le d n.f3
    by_cases c : 0 ≤ h ∧ h ≤ most n
    · obtain ⟨b, h1, h2⟩ := fits_loop2 d (fits_ev2 d) n.f3 [] [h] μ post 1 0 n.f3.length hw.2 (by omega) rfl rfl (by simp) (by omega) (by simp; omega)
      exact ⟨b, fits_head c.1 c.2 (by omega) hw.1.2.2.2.2 h1, fun hb => ⟨h, μ, rfl, c.1, c.2, h2 hb⟩⟩
    · exact ⟨false, fits_no c (by omega) hw.1.2.2.2.2, fun h => by cases h⟩
end Go.Proofs.Ytbpgfjfkogdolaa.TreeFitsTreeTells
/- Any tree at all: it has a depth; what tree.check finds. Under no condition but what stands at each. -/
namespace Go.Proofs.Ytbpgfjfkogdolaa.TreeAnyTreeTells
open Go Go.RowKit Go.Proofs.YtbpgfjfkogdolaaW.PrintWords Go.Proofs.YtbpgfjfkogdolaaW.PrintLast Go.Proofs.YtbpgfjfkogdolaaW.PrintMore Go.Proofs.Ytbpgfjfkogdolaa.PTreeTells Go.Proofs.Ytbpgfjfkogdolaa.Fnv Go.Proofs.Ytbpgfjfkogdolaa.TreePlainTreeTells Go.Proofs.Ytbpgfjfkogdolaa.TreeEvTreeTells Go.Proofs.Ytbpgfjfkogdolaa.TreeTTreeTells Go.Proofs.Ytbpgfjfkogdolaa.TreeRightTreeTells Go.Proofs.Ytbpgfjfkogdolaa.TreeCheckTreeTells
set_option linter.unusedVariables false
set_option linter.unusedSimpArgs false
theorem Deep.up : ∀ (d : Nat) (n : Nd), Deep d n → Deep (d + 1) n
  | 0, n, h => fun x hx => by rw [show n.f3 = [] from h] at hx; cases hx
  | d + 1, n, h => fun x hx => Deep.up d x (h x hx)
theorem Deep.more (d e : Nat) (n : Nd) (h : Deep d n) : Deep (d + e) n := by
  induction e with
  | zero => exact h
  | succ e ih => exact Deep.up _ _ ih
theorem deep_list : ∀ (l : List Nd), (∀ x ∈ l, ∃ d, Deep d x) → ∃ d, ∀ x ∈ l, Deep d x
  | [], _ => ⟨0, by simp⟩
  | x :: l, h => by
    obtain ⟨d, hd⟩ := h x (by simp)
    obtain ⟨e, he⟩ := deep_list l (fun y hy => h y (by simp [hy]))
    refine ⟨d + e, fun y hy => ?_⟩
    rcases List.mem_cons.mp hy with rfl | hy
    · exact Deep.more d e y hd
    · rw [Nat.add_comm]; exact Deep.more e d y (he y hy)
theorem deep_of : ∀ (s : Nat) (n : Nd), SizeOf.sizeOf n ≤ s → ∃ d, Deep d n
  | 0, n, h => by obtain ⟨f0, f1, f2, f3⟩ := n; simp at h
  | s + 1, n, h => by
    obtain ⟨f0, f1, f2, f3⟩ := n
    obtain ⟨d, hd⟩ := deep_list f3 fun x hx => deep_of s x (by
      have h1 := List.sizeOf_lt_of_mem hx
      simp at h
      omega)
    exact ⟨d + 1, hd⟩
theorem deep_any (n : Nd) : ∃ d, Deep d n := deep_of _ n (Nat.le_refl _)
theorem one_badV {n : Nd} {c : Int} (h : badV n c = 0) : c ≤ 200 ∧ One n := by
  unfold badV at h
  split at h
  · cases h
  · split at h
    · cases h
    · split at h
      · cases h
      · split at h
        · cases h
        · split at h
          · cases h
          · rename_i h1 h2 h3 h4 h5
            refine ⟨by omega, by omega, by omega, fun h6 => ?_, fun h6 => ?_, fun h6 => ?_⟩
            · have h7 : ¬ (0 < n.f3.length ∨ n.f1.size < 1 ∨ 16 < n.f1.size) := fun q => h3 ⟨h6, q⟩
              exact ⟨List.length_eq_zero_iff.mp (by omega), by omega, by omega⟩
            · exact Classical.byContradiction fun q => h4 ⟨h6, q⟩
            · have h7 : ¬ (n.f2 < 1 ∨ n.f2 > 1000) := fun q => h5 ⟨h6, q⟩
              omega
theorem checkL_any (d : Nat) (ih : ∀ (n : Nd) (c : Int), Deep d n → 0 ≤ c → c ≤ 200 → ∃ r c', Evt (fun k => checkF k n c) (r, c') ∧ (r = 0 → Well d n ∧ c' = c + szD d n ∧ c' ≤ 200)) :
    ∀ (post pre : List Nd) (i c : Int), (∀ x ∈ post, Deep d x) → i = pre.length → 0 ≤ c → c ≤ 200 → pre.length ≤ c → ∃ r c', Evt (fun k => checkL k (pre ++ post) i c) (r, c') ∧ (r = 0 → (∀ x ∈ post, Well d x) ∧ c' = c + (post.map (szD d)).sum ∧ c' ≤ 200)
  | [], pre, i, c, _, hi, _, hc, _ => ⟨0, c, Evt.succ (p := fun _ => some (0, c)) (Evt.const _) fun k => by rw [checkL, if_neg (by simp; omega)], fun _ => ⟨by simp, by simp, hc⟩⟩
  | x :: post, pre, i, c, hx, hi, h0, hc, hp => by
    obtain ⟨r1, c1, h1, h2⟩ := ih x c (hx x (by simp)) h0 hc
    have hhead : ∀ k, checkL (k + 1) (pre ++ x :: post) i c = (checkF k x c).bind fun y => if y.1 = 0 then checkL k (pre ++ x :: post) (wrap64 (i + 1)) y.2 else some y := fun k => by
      rw [checkL, if_pos (by simp; omega), if_pos (by omega), rdN_at pre x post i hi]
    by_cases hr : r1 = 0
    · obtain ⟨hw, e1, e2⟩ := h2 hr
      have hp1 := szD_pos d x
      obtain ⟨r, c', h3, h4⟩ := checkL_any d ih post (pre ++ [x]) (wrap64 (i + 1)) c1 (fun y hy => hx y (by simp [hy])) (by rw [w64 (by omega) (by omega)]; simp; omega) (by omega) e2 (by simp; omega)
      rw [show pre ++ [x] ++ post = pre ++ x :: post by simp] at h3
      refine ⟨r, c', Evt.succ (Evt.bind h1 (Evt.congr h3 fun k => if_pos hr)) hhead, fun h => ?_⟩
      obtain ⟨h5, h6, h7⟩ := h4 h
      refine ⟨fun y hy => ?_, by rw [h6, e1]; simp; omega, h7⟩
      rcases List.mem_cons.mp hy with rfl | hy
      · exact hw
      · exact h5 y hy
    · exact ⟨r1, c1, Evt.succ (Evt.bind h1 (Evt.congr (Evt.const _) fun k => if_neg hr)) hhead, fun h => absurd h hr⟩
theorem check_any : ∀ (d : Nat) (n : Nd) (c : Int), Deep d n → 0 ≤ c → c ≤ 200 → ∃ r c', Evt (fun k => checkF k n c) (r, c') ∧ (r = 0 → Well d n ∧ c' = c + szD d n ∧ c' ≤ 200)
  | d, n, c, h, h0, hc => by
    have hw : wrap64 (c + 1) = c + 1 := w64 (by omega) (by omega)
    by_cases hb : badV n (wrap64 (c + 1)) = 0
    · obtain ⟨h200, hone⟩ := one_badV hb
      rw [hw] at h200
      cases d with
      | zero =>
        refine ⟨0, c + 1, Evt.succ (p := fun k => checkL k n.f3 0 (wrap64 (c + 1))) ?_ fun k => by rw [checkF, if_pos hb], fun _ => ⟨⟨hone, h⟩, rfl, h200⟩⟩
        rw [show n.f3 = [] from h, hw]
        exact Evt.succ (p := fun _ => some (0, c + 1)) (Evt.const _) fun k => by rw [checkL, if_neg (by simp)]
      | succ d =>
        obtain ⟨r, c', h1, h2⟩ := checkL_any d (check_any d) n.f3 [] 0 (c + 1) h rfl (by omega) h200 (by simp; omega)
        refine ⟨r, c', Evt.succ (p := fun k => checkL k n.f3 0 (wrap64 (c + 1))) (by rw [hw]; exact h1) fun k => by rw [checkF, if_pos hb], fun hr => ?_⟩
        obtain ⟨h3, h4, h5⟩ := h2 hr
        refine ⟨⟨hone, h3⟩, ?_, h5⟩
        rw [h4]
        show _ = c + ((1 + (n.f3.map (szD d)).sum : Nat) : Int)
        omega
    · exact ⟨badV n (wrap64 (c + 1)), wrap64 (c + 1), Evt.succ (p := fun _ => some (badV n (wrap64 (c + 1)), wrap64 (c + 1))) (Evt.const _) fun k => by rw [checkF, if_neg hb], fun hr => absurd hr hb⟩
end Go.Proofs.Ytbpgfjfkogdolaa.TreeAnyTreeTells
/- What TreeTells compares, in plain words. Under no condition but what stands at each. -/
namespace Go.Proofs.Ytbpgfjfkogdolaa.TreeTellsLawTreeTells
open Go Go.RowKit Go.Proofs.YtbpgfjfkogdolaaW.PrintWords Go.Proofs.YtbpgfjfkogdolaaW.PrintLast Go.Proofs.YtbpgfjfkogdolaaW.PrintMore Go.Proofs.Ytbpgfjfkogdolaa.PTreeTells Go.Proofs.Ytbpgfjfkogdolaa.Fnv Go.Proofs.Ytbpgfjfkogdolaa.TreePlainTreeTells Go.Proofs.Ytbpgfjfkogdolaa.TreeEvTreeTells Go.Proofs.Ytbpgfjfkogdolaa.TreeTTreeTells Go.Proofs.Ytbpgfjfkogdolaa.TreeRightTreeTells Go.Proofs.Ytbpgfjfkogdolaa.TreeCheckTreeTells Go.Proofs.Ytbpgfjfkogdolaa.TreeTopTreeTells Go.Proofs.Ytbpgfjfkogdolaa.TreeMindTreeTells Go.Proofs.Ytbpgfjfkogdolaa.TreeThinkTreeTells Go.Proofs.Ytbpgfjfkogdolaa.TreeMindOfTreeTells Go.Proofs.Ytbpgfjfkogdolaa.TreeFitsTreeTells
set_option linter.unusedVariables false
set_option linter.unusedSimpArgs false
section
variable {σ : Type} (an : σ → ByteArray → Int × σ)
/-- Tick at a tree that is no right one. -/
theorem top_wrong (n : Nd) (mem : List Int) (s : σ) {r c : Int} (h : Evt (fun k => checkF k n 0) (r, c)) (hr : ¬ r = 0) : Evt (fun k => topF an k n mem s) (0, [], r, s) :=
  Evt.bind h (Evt.congr (Evt.const _) fun k => if_neg hr)
/-- Tick at numbers that do not fit. -/
theorem top_no (d : Nat) (n : Nd) (hw : Well d n) (hs : szD d n ≤ 200) (mem : List Int) (hm : 0 < mem.length) (hf : ¬ Fit d n mem) (s : σ) : Evt (fun k => topF an k n mem s) (0, [], 7, s) := by
  have hp := szD_pos d n
  refine Evt.bind (check_ev d n 0 hw (by omega) (by omega)) ?_
  refine Evt.congr (p := fun k => (sizeF k n).bind _) (Evt.bind (size_ev d n (Well.good d n hw).deep (by omega)) ?_) fun k => if_pos rfl
  by_cases hl : mem.length = szD d n
  · obtain ⟨b, h1, h2⟩ := fits_ev2 d n mem [] hw hl (by omega) (by simp; omega)
    rw [List.append_nil] at h1
    have hb : ¬ b = true := fun h => hf (h2 h)
    exact Evt.congr (p := fun k => (tree_fits.f k n.f0 n.f1 n.f2 n.f3 mem).bind _) (Evt.bind h1 (Evt.congr (Evt.const _) fun k => if_neg hb)) fun k => by rw [if_pos (by omega), if_pos hm, if_pos (by omega)]
  · exact Evt.congr (Evt.const _) fun k => by rw [if_pos (by omega), if_pos hm, if_neg (by omega)]
/-- Tick at a mind's numbers, or at none. -/
theorem top_mind (d : Nat) (n : Nd) (hw : Well d n) (hs : szD d n ≤ 200) (x : Md) (hx : FormM d n x) (mem : List Int) (hm : mem = flat d x ∨ mem = [] ∧ x = blankM d n) (s : σ) :
    Evt (fun k => topF an k n mem s) ((thinkD an d n x s).1, flat d (thinkD an d n x s).2.1, 0, (thinkD an d n x s).2.2) ∧ FormM d n (thinkD an d n x s).2.1 := by
  obtain ⟨h1, h2⟩ := think_same an d n (Well.good d n hw) x s hx
  have := top_ev an d n hw hs mem (flat d x) (FormM.fit d n x hx) (hm.elim .inl fun h => .inr ⟨h.1, by rw [h.2, flat_blank]⟩) s
  rw [h1] at this
  exact ⟨this, h2⟩
/-- What MindOf finds decides it. -/
theorem mind_fit {d : Nat} {n : Nd} {l left : List Int} {m : Md} {b : Bool} (h : Reads d n l m left b) : (b = true ∧ left = [] → FormM d n m ∧ l = flat d m) ∧ (¬ (b = true ∧ left = []) → ¬ Fit d n l) := by
  refine ⟨fun hb => ?_, fun hb hf => hb ?_⟩
  · obtain ⟨h1, h2⟩ := h.1 hb.1
    rw [hb.2, List.append_nil] at h2
    exact ⟨h1, h2⟩
  · have hb1 := h.2 l [] (by simp) hf
    obtain ⟨h1, h2⟩ := h.1 hb1
    refine ⟨hb1, ?_⟩
    have h3 := Fit.len d n _ (FormM.fit d n m h1)
    have h4 := Fit.len d n l hf
    have h5 := congrArg List.length h2
    simp only [List.length_append] at h5
    exact List.length_eq_zero_iff.mp (by omega)
end
end Go.Proofs.Ytbpgfjfkogdolaa.TreeTellsLawTreeTells
