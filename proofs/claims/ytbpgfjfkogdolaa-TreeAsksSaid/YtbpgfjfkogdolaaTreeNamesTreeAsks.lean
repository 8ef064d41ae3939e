/- The names in a tree: what tree.Names computes, told plainly. Under no condition but what stands at each. -/
import Derived.Test.YtbpgfjfkogdolaaTreeAsksLawTreeAsks
import Derived.Lib.SlicesCompact
import Derived.Lib.SlicesS
import Derived.Sort.EncStr
import Derived.Sort.Walk0
namespace Go.Proofs.Ytbpgfjfkogdolaa.TreeNamesTreeAsks
open Go Go.RowKit Go.Proofs.YtbpgfjfkogdolaaW.PrintWords Go.Proofs.YtbpgfjfkogdolaaW.PrintLast Go.Proofs.YtbpgfjfkogdolaaW.PrintMore Go.Proofs.Ytbpgfjfkogdolaa.PTreeAsks Go.Proofs.Ytbpgfjfkogdolaa.Fnv Go.Proofs.Ytbpgfjfkogdolaa.TreePlainTreeAsks Go.Proofs.Ytbpgfjfkogdolaa.TreeEvTreeAsks Go.Proofs.Ytbpgfjfkogdolaa.TreeTTreeAsks Go.Proofs.Ytbpgfjfkogdolaa.TreeRightTreeAsks Go.Proofs.Ytbpgfjfkogdolaa.TreeAsksLawTreeAsks
set_option linter.unusedVariables false
set_option linter.unusedSimpArgs false
def namesN : Nat → Nd → List ByteArray
  | 0, n => if n.f0 = 1 ∨ n.f0 = 2 then [n.f1] else []
  | d + 1, n => if n.f0 = 1 ∨ n.f0 = 2 then [n.f1] else (n.f3.map (namesN d)).flatten
theorem flat_le (d : Nat) (h : ∀ n, (namesN d n).length ≤ szD d n) : ∀ l : List Nd, ((l.map (namesN d)).flatten).length ≤ (l.map (szD d)).sum
  | [] => Nat.le_refl _
  | x :: l => by
    have := flat_le d h l
    have := h x
    simp only [List.map_cons, List.flatten_cons, List.length_append, List.sum_cons]
    omega
theorem names_len : ∀ (d : Nat) (n : Nd), (namesN d n).length ≤ szD d n
  | 0, n => by
    unfold namesN
    split <;> simp [szD]
  | d + 1, n => by
    have := flat_le d (names_len d) n.f3
    have hsz : szD (d + 1) n = 1 + (n.f3.map (szD d)).sum := rfl
    unfold namesN
    split
    · simp only [List.length_cons, List.length_nil]; omega
    · omega
theorem names_loop (d : Nat) (ih : ∀ n, Deep d n → szD d n ≤ 1000000 → Evt (fun k => tree_names.f k n.f0 n.f1 n.f2 n.f3) (namesN d n)) :
    ∀ (post pre : List Nd) (N i : Int) (out : List ByteArray), (∀ x ∈ post, Deep d x ∧ szD d x ≤ 1000000) → N = pre.length + post.length → i = pre.length → N ≤ 1000000 → out.length + ((post.map (namesN d)).flatten).length ≤ 1000000 → Evt (fun k => tree_names.l0 k out (pre ++ post) N i) (out ++ (post.map (namesN d)).flatten)
  | [], pre, N, i, out, _, hN, hi, _, _ => by
    refine Evt.succ (p := fun _ => some out) (by simpa using Evt.const out) fun k => ?_
    rw [tree_names.l0, if_neg (by simp at hN; omega)]
  | x :: post, pre, N, i, out, hx, hN, hi, hb, hl => by
    have hN' : N = pre.length + (post.length + 1) := by simpa using hN
    have hl' : out.length + ((namesN d x).length + ((post.map (namesN d)).flatten).length) ≤ 1000000 := by simpa using hl
    have h1 := ih x (hx x (by simp)).1 (hx x (by simp)).2
    have h2 := names_loop d ih post (pre ++ [x]) N (wrap64 (i + 1)) (out ++ namesN d x) (fun y hy => hx y (by simp [hy])) (by simp; omega) (by rw [w64 (by omega) (by omega)]; simp; omega) hb (by simp only [List.length_append]; omega)
    rw [show pre ++ [x] ++ post = pre ++ x :: post by simp, show out ++ namesN d x ++ (post.map (namesN d)).flatten = out ++ ((x :: post).map (namesN d)).flatten by simp] at h2
    refine Evt.succ (p := fun k => (tree_names.f k x.f0 x.f1 x.f2 x.f3).bind fun t => if out.length + t.length < 8796093022208 then tree_names.l0 k (out ++ t) (pre ++ x :: post) N (wrap64 (i + 1)) else none) (Evt.bind h1 (Evt.congr h2 fun k => if_pos (by omega))) fun k => ?_
    rw [tree_names.l0, if_pos (by omega), if_pos (by omega), if_pos (by simp; omega), show rd_T25 (pre ++ x :: post) i = x from rdN_at pre x post i hi]
theorem names_head {n : Nd} {A : List ByteArray} (h1 : (n.f0 = 1 ∨ n.f0 = 2) → A = [n.f1]) (hl : ¬ (n.f0 = 1 ∨ n.f0 = 2) → Evt (fun k => tree_names.l0 k [] n.f3 (n.f3.length : Int) 0) A) : Evt (fun k => tree_names.f k n.f0 n.f1 n.f2 n.f3) A := by
  by_cases c1 : n.f0 = 1
  · refine Evt.succ (p := fun k => tree_names.j0 k true n.f0 n.f1 n.f2 n.f3) (Evt.succ (p := fun _ => some [n.f1]) (by rw [h1 (.inl c1)]; exact Evt.const _) fun k => by rw [tree_names.j0, if_pos rfl]) fun k => by rw [tree_names.f, if_pos c1]
  · by_cases c2 : n.f0 = 2
    · refine Evt.succ (p := fun k => tree_names.j0 k (n.f0 == 2) n.f0 n.f1 n.f2 n.f3) (Evt.succ (p := fun _ => some [n.f1]) (by rw [h1 (.inr c2)]; exact Evt.const _) fun k => by rw [tree_names.j0, if_pos (by simpa using c2)]) fun k => by rw [tree_names.f, if_neg c1]
    · refine Evt.succ (p := fun k => tree_names.j0 k (n.f0 == 2) n.f0 n.f1 n.f2 n.f3) (Evt.succ (p := fun k => tree_names.l0 k [] n.f3 (n.f3.length : Int) 0) (hl (by omega)) fun k => by rw [tree_names.j0, if_neg (by simpa using c2)]) fun k => by rw [tree_names.f, if_neg c1]
theorem names_ev : ∀ (d : Nat) (n : Nd), Deep d n → szD d n ≤ 1000000 → Evt (fun k => tree_names.f k n.f0 n.f1 n.f2 n.f3) (namesN d n)
  | 0, n, h, _ => by
    refine names_head (fun c => by unfold namesN; rw [if_pos c]) fun c => ?_
    rw [show n.f3 = [] from h]
    unfold namesN
    rw [if_neg c]
    exact Evt.succ (p := fun _ => some []) (Evt.const _) fun k => by rw [tree_names.l0, if_neg (by simp)]
  | d + 1, n, h, hs => by
    have hs' : 1 + (n.f3.map (szD d)).sum ≤ 1000000 := hs
    have hl := szs_le d n.f3
    have hf := flat_le d (names_len d) n.f3
    refine names_head (fun c => by unfold namesN; rw [if_pos c]) fun c => ?_
    unfold namesN
    rw [if_neg c]
    have := names_loop d (names_ev d) n.f3 [] (n.f3.length : Int) 0 [] (fun x hx => ⟨h x hx, by have := TreeSameTreeAsks.mem_sum (List.mem_map_of_mem (f := szD d) hx); omega⟩) (by simp) rfl (by omega) (by simp only [List.length_nil]; omega)
    simpa using this
/-- A right tree's names are those that are asked for. -/
theorem named_of {p : ByteArray → Bool} : ∀ (d : Nat) (n : Nd), Well d n → (∀ x ∈ namesN d n, p x = true) → Named p d n
  | 0, n, hw, h => fun c => h _ (by unfold namesN; rw [if_pos c]; simp)
  | d + 1, n, hw, h => ⟨fun c => h _ (by unfold namesN; rw [if_pos c]; simp), fun x hx => by
    by_cases c : n.f0 = 1 ∨ n.f0 = 2
    · have := (hw.1.2.2.1 c).1
      rw [this] at hx
      cases hx
    · refine named_of d x (hw.2 x hx) fun y hy => h y ?_
      unfold namesN
      rw [if_neg c]
      exact List.mem_flatten.mpr ⟨_, List.mem_map_of_mem hx, hy⟩⟩
section
open Go.Lib Go.Sort
section
variable {α : Type} [Inhabited α] [DecidableEq α]
theorem compactUpTo_mem (d : Array α) : ∀ m j : Nat, j < m → d[j]! ∈ compactUpTo d m
  | 0, j, h => absurd h (by omega)
  | m + 1, j, h => by
    rw [compactUpTo_succ]
    rcases Nat.lt_or_ge j m with hj | hj
    · exact List.mem_append_left _ (compactUpTo_mem d m j hj)
    · obtain rfl : j = m := by omega
      by_cases hk : keeps d j = true
      · rw [if_pos hk]; simp
      · rw [if_neg hk]
        have h2 : j ≠ 0 ∧ d[j]! = d[j - 1]! := by
          unfold keeps at hk
          simp only [decide_eq_true_eq, not_or, Decidable.not_not] at hk
          exact hk
        rw [h2.2, List.append_nil]
        exact compactUpTo_mem d j (j - 1) (by omega)
theorem compact_mem (zs : List α) (x : α) (hx : x ∈ zs) : x ∈ compact zs := by
  obtain ⟨j, hj, rfl⟩ := List.getElem_of_mem hx
  have := compactUpTo_mem zs.toArray zs.length j hj
  unfold compact
  rwa [show zs.toArray[j]! = zs[j] from by simp [hj]] at this
theorem compact_sub (zs : List α) : (compact zs).Sublist zs := by
  have h : compact zs = ((List.range zs.length).filter (keeps zs.toArray)).map (zs.toArray[·]!) := rfl
  have e : (List.range zs.length).map (zs.toArray[·]!) = zs := by
    have := range_map_get zs.toArray
    simpa using this
  rw [h]
  conv => rhs; rw [← e]
  exact (List.filter_sublist).map _
end
/-- A string of its bytes. -/
abbrev bs (l : List UInt8) : ByteArray := ⟨l.toArray⟩
/-- What Names makes of names. -/
def namesZ (l : List ByteArray) : List (List UInt8) := compact ((l.map fun b => b.data.toList).mergeSort fun x y => decide (x ≤ y))
theorem namesZ_mem (l : List ByteArray) (x : ByteArray) (hx : x ∈ l) : x ∈ (namesZ l).map bs := by
  have h1 : x.data.toList ∈ namesZ l := compact_mem _ _ (List.mem_mergeSort.mpr (List.mem_map_of_mem hx))
  have := List.mem_map_of_mem (f := bs) h1
  rwa [show bs x.data.toList = x from by cases x; simp [bs]] at this
theorem namesZ_up (l : List ByteArray) : (namesZ l).Pairwise fun x y => x ≤ y := by
  have h : ((l.map fun b => b.data.toList).mergeSort fun x y => decide (x ≤ y)).Pairwise fun x y => x ≤ y := by
    have := List.pairwise_mergeSort (le := fun x y : List UInt8 => decide (x ≤ y)) (fun a b c h1 h2 => by simp only [decide_eq_true_eq] at *; exact List.le_trans h1 h2) (fun a b => by simp only [Bool.or_eq_true, decide_eq_true_eq]; exact List.le_total a b) (l.map fun b => b.data.toList)
    exact this.imp fun h => by simpa using h
  exact h.sublist (compact_sub _)
theorem namesZ_len (l : List ByteArray) : (namesZ l).length ≤ l.length := by
  have := (compact_sub ((l.map fun b => b.data.toList).mergeSort fun x y => decide (x ≤ y))).length_le
  rw [List.length_mergeSort, List.length_map] at this
  exact this
/-- A row in order, as slices.IsSorted looks at it. -/
theorem less_no {a b : ByteArray} (h : ¬ a.toList < b.toList) : cmp_Less_string.f a b = some false := by
  unfold cmp_Less_string.f cmp_isNaN_string.f
  simp [Go.Proofs.bytesLess_eq, h]
theorem sorted_loop (Z : List ByteArray) (hl : Z.length ≤ 1000000) (h : ∀ i : Nat, i + 1 < Z.length → ¬ (Z.getD (i + 1) ByteArray.empty).toList < (Z.getD i ByteArray.empty).toList) : ∀ i : Nat, i < Z.length → slices_IsSorted_string_string.l0 (i + 1) Z (i : Int) = some true
  | 0, hi => by rw [slices_IsSorted_string_string.l0, if_neg (by omega)]
  | i + 1, hi => by
    have h1 := sorted_loop Z hl h i (by omega)
    have e : wrap64 (((i + 1 : Nat) : Int) - 1) = (i : Int) := by unfold wrap64; omega
    rw [slices_IsSorted_string_string.l0, if_pos (by omega), if_pos (by omega), if_pos (by omega), e, if_pos (by omega), if_pos (by omega)]
    have h2 : cmp_Less_string.f (rdOf ByteArray.empty Z ((i + 1 : Nat) : Int)) (rdOf ByteArray.empty Z (i : Int)) = some false := less_no (h i hi)
    rw [h2]
    exact h1
theorem sorted_true (Z : List ByteArray) (hl : Z.length ≤ 1000000) (h : ∀ i : Nat, i + 1 < Z.length → ¬ (Z.getD (i + 1) ByteArray.empty).toList < (Z.getD i ByteArray.empty).toList) : ∃ k, slices_IsSorted_string_string.f k Z = some true := by
  unfold slices_IsSorted_string_string.f
  match Z, hl, h with
  | [], _, _ => exact ⟨1, by rw [slices_IsSorted_string_string.l0, if_neg (by show ¬ wrap64 ((0 : Int) - 1) > 0; unfold wrap64; omega)]⟩
  | z :: Z, hl, h =>
    have e : wrap64 (((z :: Z).length : Int) - 1) = (Z.length : Int) := by simp only [List.length_cons] at *; unfold wrap64; omega
    rw [e]
    exact ⟨_, sorted_loop (z :: Z) hl h Z.length (by simp)⟩
theorem namesZ_sorted (l : List ByteArray) (hl : l.length ≤ 1000000) : ∃ k, slices_IsSorted_string_string.f k ((namesZ l).map bs) = some true := by
  have hz := namesZ_len l
  refine sorted_true _ (by rw [List.length_map]; omega) fun i hi => ?_
  rw [List.length_map] at hi
  have h1 : i + 1 < (namesZ l).length := hi
  have e1 : (((namesZ l).map bs).getD (i + 1) ByteArray.empty) = bs (namesZ l)[i + 1] := by simp [List.getD_eq_getElem?_getD, h1]
  have e2 : (((namesZ l).map bs).getD i ByteArray.empty) = bs (namesZ l)[i] := by simp [List.getD_eq_getElem?_getD, show i < (namesZ l).length from by omega]
  rw [e1, e2, ByteArray.toList_eq, ByteArray.toList_eq]
  have h2 := (List.pairwise_iff_getElem.mp (namesZ_up l)) i (i + 1) (by omega) h1 (by omega)
  simpa [bs] using h2
end
end Go.Proofs.Ytbpgfjfkogdolaa.TreeNamesTreeAsks
