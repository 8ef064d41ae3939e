/- A binary heap in a list, as container/heap keeps it, ordered by cost and then by cell; what Push and Pop leave. Under no condition but what stands at each. -/
namespace Go.Proofs.Ytmpfboilodlfnaa.FlowHeap
abbrev Far := Int × Int
def lt (x y : Far) : Bool := decide (x.1 < y.1 ∨ x.1 = y.1 ∧ x.2 < y.2)
def le (x y : Far) : Prop := x.1 < y.1 ∨ x.1 = y.1 ∧ x.2 ≤ y.2
theorem le_of_not {x y : Far} (h : lt x y = false) : le y x := by
  have h := of_decide_eq_false h
  unfold le
  omega
theorem le_of_lt {x y : Far} (h : lt x y = true) : le x y := by
  have h := of_decide_eq_true h
  unfold le
  omega
theorem le_refl (x : Far) : le x x := by unfold le; omega
theorem le_trans {x y z : Far} (h : le x y) (k : le y z) : le x z := by unfold le at *; omega
def at_ (l : List Far) (i : Nat) : Far := l.getD i (0, 0)
def swap (l : List Far) (i j : Nat) : List Far := (l.set i (at_ l j)).set j (at_ l i)
theorem swap_length (l : List Far) (i j : Nat) : (swap l i j).length = l.length := by simp [swap]
theorem at_set (l : List Far) (i : Nat) (x : Far) (k : Nat) : at_ (l.set i x) k = if i = k ∧ k < l.length then x else at_ l k := by
  unfold at_
  rw [List.getD_eq_getElem?_getD, List.getD_eq_getElem?_getD, List.getElem?_set]
  by_cases h : i = k
  · subst h
    by_cases h2 : i < l.length
    · simp [h2]
    · simp [h2]
  · simp [h]
theorem at_swap (l : List Far) (i j k : Nat) (hi : i < l.length) (hj : j < l.length) : at_ (swap l i j) k = if k = j then at_ l i else if k = i then at_ l j else at_ l k := by
  unfold swap
  rw [at_set, at_set]
  by_cases h : k = j
  · subst h; simp [hj]
  · rw [if_neg (by omega), if_neg h]
    by_cases h2 : k = i
    · subst h2; simp [hi]
    · rw [if_neg (by omega), if_neg h2]
theorem mem_at {l : List Far} {x : Far} : x ∈ l ↔ ∃ i, i < l.length ∧ at_ l i = x := by
  rw [List.mem_iff_getElem]
  constructor
  · rintro ⟨i, hi, h⟩; exact ⟨i, hi, by unfold at_; rw [List.getD_eq_getElem?_getD, List.getElem?_eq_getElem hi]; exact h⟩
  · rintro ⟨i, hi, h⟩; refine ⟨i, hi, ?_⟩; unfold at_ at h; rw [List.getD_eq_getElem?_getD, List.getElem?_eq_getElem hi] at h; exact h
theorem mem_swap {l : List Far} {i j : Nat} (hi : i < l.length) (hj : j < l.length) {x : Far} : x ∈ swap l i j ↔ x ∈ l := by
  rw [mem_at, mem_at, swap_length]
  constructor
  · rintro ⟨k, hk, h⟩
    rw [at_swap l i j k hi hj] at h
    split at h
    · exact ⟨i, hi, h⟩
    · split at h
      · exact ⟨j, hj, h⟩
      · exact ⟨k, hk, h⟩
  · rintro ⟨k, hk, h⟩
    by_cases h1 : k = i
    · subst h1; exact ⟨j, hj, by rw [at_swap l k j j hi hj, if_pos rfl]; exact h⟩
    · by_cases h2 : k = j
      · subst h2; exact ⟨i, hi, by rw [at_swap l i k i hi hj]; split; rename_i e; rw [e]; exact h; rw [if_pos rfl]; exact h⟩
      · exact ⟨k, hk, by rw [at_swap l i j k hi hj, if_neg h2, if_neg h1]; exact h⟩
/-- Up from j. -/
def upF : Nat → List Far → Nat → List Far
  | 0, l, _ => l
  | k + 1, l, j => if j = 0 then l else if lt (at_ l j) (at_ l ((j - 1) / 2)) = false then l else upF k (swap l ((j - 1) / 2) j) ((j - 1) / 2)
/-- Down from i, among the first n. -/
def downF : Nat → List Far → Nat → Nat → List Far
  | 0, l, _, _ => l
  | k + 1, l, i, n =>
    if 2 * i + 1 ≥ n then l
    else
      let j := if 2 * i + 2 < n ∧ lt (at_ l (2 * i + 2)) (at_ l (2 * i + 1)) = true then 2 * i + 2 else 2 * i + 1
      if lt (at_ l j) (at_ l i) = false then l else downF k (swap l i j) j n
def pushF (l : List Far) (x : Far) : List Far := upF (l.length + 1) (l ++ [x]) l.length
def popF (l : List Far) : List Far := (downF l.length (swap l 0 (l.length - 1)) 0 (l.length - 1)).take (l.length - 1)
theorem upF_length : ∀ (k : Nat) (l : List Far) (j : Nat), (upF k l j).length = l.length
  | 0, _, _ => rfl
  | k + 1, l, j => by unfold upF; split; rfl; split; rfl; rw [upF_length k, swap_length]
theorem downF_length : ∀ (k : Nat) (l : List Far) (i n : Nat), (downF k l i n).length = l.length
  | 0, _, _, _ => rfl
  | k + 1, l, i, n => by
    unfold downF
    split; rfl
    dsimp only
    generalize (if 2 * i + 2 < n ∧ lt (at_ l (2 * i + 2)) (at_ l (2 * i + 1)) = true then 2 * i + 2 else 2 * i + 1) = j
    split; rfl
    rw [downF_length k, swap_length]
theorem upF_mem : ∀ (k : Nat) (l : List Far) (j : Nat), j < l.length → ∀ x, x ∈ upF k l j ↔ x ∈ l
  | 0, _, _, _, _ => Iff.rfl
  | k + 1, l, j, hj, x => by
    unfold upF
    split; exact Iff.rfl
    split; exact Iff.rfl
    rw [upF_mem k _ _ (by rw [swap_length]; omega), mem_swap (by omega) hj]
theorem downF_mem : ∀ (k : Nat) (l : List Far) (i n : Nat), n ≤ l.length → ∀ x, x ∈ downF k l i n ↔ x ∈ l
  | 0, _, _, _, _, _ => Iff.rfl
  | k + 1, l, i, n, hn, x => by
    unfold downF
    split; exact Iff.rfl
    dsimp only
    generalize hj : (if 2 * i + 2 < n ∧ lt (at_ l (2 * i + 2)) (at_ l (2 * i + 1)) = true then 2 * i + 2 else 2 * i + 1) = j
    have hj' : j < n := by subst hj; split <;> omega
    split; exact Iff.rfl
    rw [downF_mem k _ _ _ (by rw [swap_length]; exact hn), mem_swap (by omega) (by omega)]
/-- The last of what Down leaves is as it was. -/
theorem downF_far : ∀ (k : Nat) (l : List Far) (i n : Nat), n ≤ l.length → ∀ q, n ≤ q → at_ (downF k l i n) q = at_ l q
  | 0, _, _, _, _, _, _ => rfl
  | k + 1, l, i, n, hn, q, hq => by
    unfold downF
    split; rfl
    dsimp only
    generalize hj : (if 2 * i + 2 < n ∧ lt (at_ l (2 * i + 2)) (at_ l (2 * i + 1)) = true then 2 * i + 2 else 2 * i + 1) = j
    have hj' : j < n ∧ 2 * i + 1 ≤ j := by subst hj; split <;> omega
    split; rfl
    rw [downF_far k _ _ _ (by rw [swap_length]; exact hn) q hq, at_swap _ _ _ _ (by omega) (by omega), if_neg (by omega), if_neg (by omega)]
/-- A heap of the first n. -/
def Heap (l : List Far) (n : Nat) : Prop := ∀ i, 0 < i → i < n → le (at_ l ((i - 1) / 2)) (at_ l i)
theorem Heap.root {l : List Far} {n : Nat} (h : Heap l n) : ∀ i, i < n → le (at_ l 0) (at_ l i) := by
  intro i
  induction i using Nat.strongRecOn with
  | ind i ih =>
    intro hi
    by_cases h0 : i = 0
    · subst h0; exact le_refl _
    · exact le_trans (ih ((i - 1) / 2) (by omega) (by omega)) (h i (by omega) hi)
/-- A heap but for j against its parent. -/
def Up (l : List Far) (j : Nat) : Prop := (∀ i, 0 < i → i < l.length → i ≠ j → le (at_ l ((i - 1) / 2)) (at_ l i)) ∧ ∀ i, 0 < i → i < l.length → (i - 1) / 2 = j → 0 < j → le (at_ l ((j - 1) / 2)) (at_ l i)
theorem upF_heap : ∀ (k : Nat) (l : List Far) (j : Nat), j < l.length → j < k → Up l j → Heap (upF k l j) l.length
  | 0, _, _, _, h, _ => by omega
  | k + 1, l, j, hj, hk, hu => by
    unfold upF
    split
    · rename_i h0
      intro i h1 h2
      exact hu.1 i h1 h2 (by omega)
    · rename_i h0
      split
      · rename_i hl
        intro i h1 h2
        by_cases hi : i = j
        · subst hi; exact le_of_not hl
        · exact hu.1 i h1 h2 hi
      · rename_i hl
        have hlt : le (at_ l j) (at_ l ((j - 1) / 2)) := le_of_lt (by simpa using hl)
        have hp : (j - 1) / 2 < j := by omega
        have := upF_heap k (swap l ((j - 1) / 2) j) ((j - 1) / 2) (by rw [swap_length]; omega) (by omega) ?_
        · rwa [swap_length] at this
        · have A : ∀ q, at_ (swap l ((j - 1) / 2) j) q = if q = j then at_ l ((j - 1) / 2) else if q = (j - 1) / 2 then at_ l j else at_ l q := fun q => at_swap l _ _ q (by omega) hj
          refine ⟨fun i h1 h2 h3 => ?_, fun i h1 h2 h3 h4 => ?_⟩
          · rw [swap_length] at h2
            rw [A, A]
            by_cases e1 : i = j
            · subst e1; rw [if_neg (by omega), if_pos rfl, if_pos rfl]; exact hlt
            · rw [if_neg e1, if_neg h3]
              by_cases e2 : (i - 1) / 2 = j
              · rw [if_pos e2]; exact hu.2 i h1 h2 e2 (by omega)
              · rw [if_neg e2]
                by_cases e3 : (i - 1) / 2 = (j - 1) / 2
                · rw [if_pos e3]; refine le_trans hlt ?_; rw [← e3]; exact hu.1 i h1 h2 e1
                · rw [if_neg e3]; exact hu.1 i h1 h2 e1
          · rw [swap_length] at h2
            have hg := hu.1 ((j - 1) / 2) h4 (by omega) (by omega)
            rw [A, A, if_neg (by omega), if_neg (by omega)]
            by_cases e1 : i = j
            · rw [if_pos e1]; exact hg
            · rw [if_neg e1, if_neg (by omega)]
              refine le_trans hg ?_
              rw [← h3]
              exact hu.1 i h1 h2 e1
theorem pushF_heap (l : List Far) (x : Far) (h : Heap l l.length) : Heap (pushF l x) (pushF l x).length := by
  unfold pushF
  rw [upF_length]
  refine upF_heap _ _ _ (by simp) (by omega) ⟨fun i h1 h2 h3 => ?_, fun i h1 h2 h3 h4 => ?_⟩
  · simp at h2
    have e : ∀ q, q < l.length → at_ (l ++ [x]) q = at_ l q := fun q hq => by
      unfold at_; rw [List.getD_eq_getElem?_getD, List.getD_eq_getElem?_getD, List.getElem?_append_left hq]
    rw [e _ (by omega), e _ (by omega)]
    exact h i h1 (by omega)
  · simp at h2; omega
theorem pushF_mem (l : List Far) (x y : Far) : y ∈ pushF l x ↔ y = x ∨ y ∈ l := by
  unfold pushF
  rw [upF_mem _ _ _ (by simp)]
  simp [or_comm]
theorem pushF_length (l : List Far) (x : Far) : (pushF l x).length = l.length + 1 := by unfold pushF; rw [upF_length]; simp
/-- A heap of the first n but for i against its kids. -/
def Down (l : List Far) (i n : Nat) : Prop := (∀ q, 0 < q → q < n → (q - 1) / 2 ≠ i → le (at_ l ((q - 1) / 2)) (at_ l q)) ∧ ∀ q, 0 < q → q < n → (q - 1) / 2 = i → 0 < i → le (at_ l ((i - 1) / 2)) (at_ l q)
theorem downF_heap : ∀ (k : Nat) (l : List Far) (i n : Nat), n ≤ l.length → i < n → n ≤ i + k → Down l i n → Heap (downF k l i n) n
  | 0, _, _, _, _, h, h2, _ => by omega
  | k + 1, l, i, n, hn, hi, hk, hd => by
    unfold downF
    split
    · rename_i h0
      intro q h1 h2
      exact hd.1 q h1 h2 (by omega)
    · rename_i h0
      dsimp only
      generalize hj : (if 2 * i + 2 < n ∧ lt (at_ l (2 * i + 2)) (at_ l (2 * i + 1)) = true then 2 * i + 2 else 2 * i + 1) = j
      have hj1 : j < n ∧ (j = 2 * i + 1 ∨ j = 2 * i + 2) := by subst hj; split <;> omega
      have hj2 : ∀ q, (q = 2 * i + 1 ∨ q = 2 * i + 2) → q < n → le (at_ l j) (at_ l q) := by
        intro q hq hqn
        subst hj
        split
        · rename_i h
          rcases hq with rfl | rfl
          · exact le_of_lt h.2
          · exact le_refl _
        · rename_i h
          rcases hq with rfl | rfl
          · exact le_refl _
          · refine le_of_not ?_
            cases hb : lt (at_ l (2 * i + 2)) (at_ l (2 * i + 1)) with
            | false => rfl
            | true => exact absurd ⟨hqn, hb⟩ h
      clear hj
      split
      · rename_i hl
        intro q h1 h2
        by_cases e : (q - 1) / 2 = i
        · rw [e]; exact le_trans (le_of_not hl) (hj2 q (by omega) h2)
        · exact hd.1 q h1 h2 e
      · rename_i hl
        have hlt : le (at_ l j) (at_ l i) := le_of_lt (by simpa using hl)
        have A : ∀ q, at_ (swap l i j) q = if q = j then at_ l i else if q = i then at_ l j else at_ l q := fun q => at_swap l _ _ q (by omega) (by omega)
        refine downF_heap k _ j n (by rw [swap_length]; exact hn) hj1.1 (by omega) ⟨fun q h1 h2 h3 => ?_, fun q h1 h2 h3 h4 => ?_⟩
        · rw [A, A, if_neg h3]
          by_cases e1 : (q - 1) / 2 = i
          · rw [if_pos e1]
            by_cases e2 : q = j
            · rw [if_pos e2]; exact hlt
            · rw [if_neg e2, if_neg (by omega)]; exact hj2 q (by omega) h2
          · rw [if_neg e1, if_neg (by omega)]
            by_cases e2 : q = i
            · rw [if_pos e2, e2]; exact hd.2 j (by omega) hj1.1 (by omega) (by omega)
            · rw [if_neg e2]; exact hd.1 q h1 h2 e1
        · have e5 : (j - 1) / 2 = i := by omega
          rw [A, A, e5, if_neg (by omega), if_pos rfl, if_neg (by omega), if_neg (by omega)]
          rw [← h3]
          exact hd.1 q h1 h2 (by omega)
theorem at_take (l : List Far) (n i : Nat) (h : i < n) : at_ (l.take n) i = at_ l i := by
  unfold at_; rw [List.getD_eq_getElem?_getD, List.getD_eq_getElem?_getD, List.getElem?_take_of_lt h]
theorem popF_length (l : List Far) : (popF l).length = l.length - 1 := by
  unfold popF; rw [List.length_take, downF_length, swap_length]; omega
theorem popF_heap (l : List Far) (h : Heap l l.length) : Heap (popF l) (popF l).length := by
  rw [popF_length]
  intro i h1 h2
  unfold popF
  rw [at_take _ _ _ (by omega), at_take _ _ _ h2]
  refine downF_heap _ _ _ _ (by rw [swap_length]; omega) (by omega) (by omega) ⟨fun q h1 h2 h3 => ?_, fun q _ _ _ h4 => absurd h4 (Nat.lt_irrefl 0)⟩ i h1 h2
  rw [at_swap _ _ _ _ (by omega) (by omega), at_swap _ _ _ _ (by omega) (by omega), if_neg (by omega), if_neg (by omega), if_neg (by omega), if_neg (by omega)]
  exact h q h1 (by omega)
/-- What Pop hands back and leaves. -/
theorem pop_tells (l : List Far) (h0 : 0 < l.length) (h : Heap l l.length) :
    at_ (downF l.length (swap l 0 (l.length - 1)) 0 (l.length - 1)) (l.length - 1) = at_ l 0 ∧ at_ l 0 ∈ l ∧ (∀ x ∈ l, le (at_ l 0) x) ∧ (∀ x ∈ popF l, x ∈ l) ∧ ∀ x ∈ l, x = at_ l 0 ∨ x ∈ popF l := by
  have e : at_ (downF l.length (swap l 0 (l.length - 1)) 0 (l.length - 1)) (l.length - 1) = at_ l 0 := by
    rw [downF_far _ _ _ _ (by rw [swap_length]; omega) _ (Nat.le_refl _), at_swap _ _ _ _ (by omega) (by omega), if_pos rfl]
  have hm : ∀ x, x ∈ downF l.length (swap l 0 (l.length - 1)) 0 (l.length - 1) ↔ x ∈ l := fun x => by
    rw [downF_mem _ _ _ _ (by rw [swap_length]; omega), mem_swap (by omega) (by omega)]
  have hlen : (downF l.length (swap l 0 (l.length - 1)) 0 (l.length - 1)).length = l.length := by rw [downF_length, swap_length]
  refine ⟨e, mem_at.2 ⟨0, h0, rfl⟩, fun x hx => ?_, fun x hx => (hm x).1 (List.mem_of_mem_take hx), fun x hx => ?_⟩
  · obtain ⟨i, hi, rfl⟩ := mem_at.1 hx
    exact h.root i hi
  · obtain ⟨i, hi, rfl⟩ := mem_at.1 ((hm x).2 hx)
    rw [hlen] at hi
    by_cases hl : i = l.length - 1
    · subst hl; exact .inl e
    · refine .inr (mem_at.2 ⟨i, by rw [popF_length]; omega, ?_⟩)
      unfold popF
      exact at_take _ _ _ (by omega)
end Go.Proofs.Ytmpfboilodlfnaa.FlowHeap
