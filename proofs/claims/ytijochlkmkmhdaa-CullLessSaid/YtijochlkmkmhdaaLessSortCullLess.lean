/- A stable sort by a key, as rows: what is sorted of fewer is among what is sorted of more, in the same order. Under no condition but what stands at each. -/
import Derived.Test.YtijochlkmkmhdaaThingsCullLess
namespace Go.Proofs.Ytijochlkmkmhdaa.LessSortCullLess
set_option linter.unusedVariables false
set_option linter.unusedSimpArgs false
/-- A row that grows by one, each new one laid behind those whose key is no greater. -/
def insF (key : Int → Int) (P : List Int) (x : Int) : List Int := P.filter (fun p => decide (key p ≤ key x)) ++ x :: P.filter (fun p => !decide (key p ≤ key x))
def sortF (key : Int → Int) (l : List Int) : List Int := l.foldl (insF key) []
def Up (key : Int → Int) (P : List Int) : Prop := P.Pairwise fun a b => key a ≤ key b
/-- What a step of an insertion leaves. -/
def Ins (key : Int → Int) (P : List Int) (x : Int) (out : List Int) : Prop := ∃ P1 P2, P = P1 ++ P2 ∧ out = P1 ++ x :: P2 ∧ (∀ p ∈ P2, key x < key p) ∧ (P1 = [] ∨ ∃ P0 q, P1 = P0 ++ [q] ∧ ¬ key x < key q)
theorem insF_up {key : Int → Int} {P : List Int} (h : Up key P) (x : Int) : Up key (insF key P x) := by
  unfold Up insF
  rw [List.pairwise_append]
  refine ⟨List.Pairwise.filter _ h, ?_, ?_⟩
  · rw [List.pairwise_cons]
    refine ⟨fun b hb => ?_, List.Pairwise.filter _ h⟩
    have := (List.mem_filter.mp hb).2
    simp at this
    omega
  · intro a ha b hb
    have h1 := (List.mem_filter.mp ha).2
    simp at h1
    rcases List.mem_cons.mp hb with rfl | hb
    · exact h1
    · have h2 := (List.mem_filter.mp hb).2
      simp at h2
      omega
theorem Ins.eq {key : Int → Int} {P : List Int} {x : Int} {out : List Int} (h : Up key P) (hi : Ins key P x out) : out = insF key P x := by
  obtain ⟨P1, P2, rfl, rfl, h2, h1⟩ := hi
  have hP1 : ∀ p ∈ P1, key p ≤ key x := by
    rcases h1 with rfl | ⟨P0, q, rfl, hq⟩
    · simp
    · intro p hp
      rcases List.mem_append.mp hp with hp | hp
      · have := (List.pairwise_append.mp (List.pairwise_append.mp h).1).2.2 p hp q (by simp)
        omega
      · rw [List.mem_singleton.mp hp]; omega
  unfold insF
  have e1 : P1.filter (fun p => decide (key p ≤ key x)) = P1 := List.filter_eq_self.mpr fun p hp => decide_eq_true (hP1 p hp)
  have e2 : P2.filter (fun p => decide (key p ≤ key x)) = [] := List.filter_eq_nil_iff.mpr fun p hp => by have := h2 p hp; simp; omega
  have e3 : P1.filter (fun p => !decide (key p ≤ key x)) = [] := List.filter_eq_nil_iff.mpr fun p hp => by have := hP1 p hp; simp; omega
  have e4 : P2.filter (fun p => !decide (key p ≤ key x)) = P2 := List.filter_eq_self.mpr fun p hp => by have := h2 p hp; simp; omega
  rw [List.filter_append, List.filter_append, e1, e2, e3, e4]
  simp
theorem sortF_snoc (key : Int → Int) (l : List Int) (x : Int) : sortF key (l ++ [x]) = insF key (sortF key l) x := by simp [sortF]
theorem sortF_up (key : Int → Int) (l : List Int) : Up key (sortF key l) := by
  have : ∀ (l P : List Int), Up key P → Up key (l.foldl (insF key) P) := by
    intro l
    induction l with
    | nil => intro P h; exact h
    | cons x l ih => intro P h; exact ih _ (insF_up h x)
  exact this l [] List.Pairwise.nil
theorem split_up {key : Int → Int} : ∀ {P : List Int}, Up key P → ∀ x, P = P.filter (fun p => decide (key p ≤ key x)) ++ P.filter (fun p => !decide (key p ≤ key x))
  | [], _, x => rfl
  | p :: P, h, x => by
    obtain ⟨h1, h2⟩ := List.pairwise_cons.mp h
    by_cases hp : key p ≤ key x
    · have := split_up h2 x
      simp only [List.filter_cons, hp, decide_true, Bool.not_true, if_true, Bool.false_eq_true, if_false, List.cons_append]
      rw [← this]
    · have hall : ∀ q ∈ P, ¬ key q ≤ key x := fun q hq => by have := h1 q hq; omega
      have e1 : P.filter (fun p => decide (key p ≤ key x)) = [] := List.filter_eq_nil_iff.mpr fun q hq => by simp; have := hall q hq; omega
      have e2 : P.filter (fun p => !decide (key p ≤ key x)) = P := List.filter_eq_self.mpr fun q hq => by simp; have := hall q hq; omega
      simp [List.filter_cons, hp, e1, e2]
theorem insF_sub {key : Int → Int} {P : List Int} (h : Up key P) (x : Int) : P.Sublist (insF key P x) := by
  have e := split_up h x
  unfold insF
  have k : (P.filter (fun p => decide (key p ≤ key x)) ++ P.filter (fun p => !decide (key p ≤ key x))).Sublist (P.filter (fun p => decide (key p ≤ key x)) ++ x :: P.filter (fun p => !decide (key p ≤ key x))) := (List.Sublist.refl _).append (List.sublist_cons_self x _)
  rwa [← e] at k
theorem insF_mono {key : Int → Int} {P Q : List Int} (h : P.Sublist Q) (x : Int) : (insF key P x).Sublist (insF key Q x) := by
  unfold insF
  exact (h.filter _).append ((h.filter _).cons_cons x)
theorem sortF_sub (key : Int → Int) {b a : List Int} (h : b.Sublist a) : (sortF key b).Sublist (sortF key a) := by
  have : ∀ (n : Nat) (a b : List Int), a.length = n → b.Sublist a → (sortF key b).Sublist (sortF key a) := by
    intro n
    induction n with
    | zero =>
      intro a b hn h
      obtain rfl : a = [] := List.length_eq_zero_iff.mp hn
      obtain rfl : b = [] := List.sublist_nil.mp h
      exact List.Sublist.refl _
    | succ n ih =>
      intro a b hn h
      obtain ⟨a', x, rfl⟩ : ∃ a' x, a = a' ++ [x] := by
        have hne : a ≠ [] := by intro e; rw [e] at hn; simp at hn
        exact ⟨a.dropLast, a.getLast hne, (List.dropLast_concat_getLast hne).symm⟩
      obtain ⟨b1, b2, rfl, h1, h2⟩ := List.sublist_append_iff.mp h
      have hl : a'.length = n := by simpa using hn
      have k := ih a' b1 hl h1
      rw [sortF_snoc]
      rcases (show b2 = [] ∨ b2 = [x] from by
        cases h2 with
        | cons _ h => exact .inl (List.sublist_nil.mp h)
        | cons_cons _ h => exact .inr (by rw [List.sublist_nil.mp h])) with rfl | rfl
      · rw [List.append_nil]
        exact k.trans (insF_sub (sortF_up key a') x)
      · rw [sortF_snoc]
        exact insF_mono k x
  exact this a.length a b rfl h
theorem filter_sub {α : Type} {p q : α → Bool} (h : ∀ x, p x = true → q x = true) : ∀ l : List α, (l.filter p).Sublist (l.filter q)
  | [] => List.Sublist.refl _
  | x :: l => by
    have ih := filter_sub h l
    by_cases hp : p x = true
    · rw [List.filter_cons_of_pos hp, List.filter_cons_of_pos (h x hp)]; exact ih.cons_cons x
    · rw [List.filter_cons_of_neg hp]
      by_cases hq : q x = true
      · rw [List.filter_cons_of_pos hq]; exact ih.cons x
      · rw [List.filter_cons_of_neg hq]; exact ih
theorem filter_len (p : Int → Bool) : ∀ l : List Int, (l.filter p).length + (l.filter fun x => !p x).length = l.length
  | [] => rfl
  | x :: l => by
    have := filter_len p l
    by_cases h : p x = true
    · rw [List.filter_cons_of_pos h, List.filter_cons_of_neg (by simp [h])]; simp only [List.length_cons]; omega
    · rw [List.filter_cons_of_neg h, List.filter_cons_of_pos (by simpa using h)]; simp only [List.length_cons]; omega
theorem insF_len (key : Int → Int) (P : List Int) (x : Int) : (insF key P x).length = P.length + 1 := by
  have := filter_len (fun p => decide (key p ≤ key x)) P
  unfold insF
  simp only [List.length_append, List.length_cons]
  omega
theorem sortF_len (key : Int → Int) (l : List Int) : (sortF key l).length = l.length := by
  have : ∀ (l P : List Int), (l.foldl (insF key) P).length = P.length + l.length := by
    intro l
    induction l with
    | nil => intro P; rfl
    | cons x l ih => intro P; rw [List.foldl_cons, ih, insF_len, List.length_cons]; omega
  simpa [sortF] using this l []
/-- The law's own count, an element at a time. -/
theorem sub_step {y i : Int} {ys rest : List Int} (h : (y :: ys).Sublist (i :: rest)) : (y = i → ys.Sublist rest) ∧ (y ≠ i → (y :: ys).Sublist rest) := by
  cases h with
  | cons _ h => exact ⟨fun _ => (List.sublist_cons_self y ys).trans h, fun _ => h⟩
  | cons_cons _ h => exact ⟨fun _ => h, fun hn => absurd rfl hn⟩
theorem insF_mem (key : Int → Int) (P : List Int) (x y : Int) : y ∈ insF key P x ↔ y ∈ P ∨ y = x := by
  unfold insF
  simp only [List.mem_append, List.mem_cons, List.mem_filter, Bool.not_eq_true', decide_eq_true_eq, decide_eq_false_iff_not]
  constructor
  · rintro (⟨h, _⟩ | h | ⟨h, _⟩)
    · exact .inl h
    · exact .inr h
    · exact .inl h
  · rintro (h | h)
    · by_cases hk : key y ≤ key x
      · exact .inl ⟨h, hk⟩
      · exact .inr (.inr ⟨h, hk⟩)
    · exact .inr (.inl h)
theorem sortF_mem (key : Int → Int) (l : List Int) (x : Int) : x ∈ sortF key l ↔ x ∈ l := by
  have : ∀ (l P : List Int), x ∈ l.foldl (insF key) P ↔ x ∈ P ∨ x ∈ l := by
    intro l
    induction l with
    | nil => intro P; simp
    | cons y l ih => intro P; rw [List.foldl_cons, ih, insF_mem, List.mem_cons, or_assoc]
  simpa [sortF] using this l []
/-- What an insertion's last place leaves, sorted. -/
theorem sort_next (key : Int → Int) (l : List Int) (x : Int) (P1 P2 : List Int) (h : sortF key l = P1 ++ P2) (h2 : ∀ p ∈ P2, key x < key p) (h1 : P1 = [] ∨ ∃ P0 q, P1 = P0 ++ [q] ∧ ¬ key x < key q) : sortF key (l ++ [x]) = P1 ++ x :: P2 := by
  rw [sortF_snoc, ← Ins.eq (sortF_up key l) ⟨P1, P2, h, rfl, h2, h1⟩]
end Go.Proofs.Ytijochlkmkmhdaa.LessSortCullLess
