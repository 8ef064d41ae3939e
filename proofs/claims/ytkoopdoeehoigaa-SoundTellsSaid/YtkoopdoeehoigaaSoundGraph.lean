/- Heights over operations, plain: what a right assignment is, that the least one is unique, and two ways to find it. Under no condition but what stands at each. -/
import Derived.Test.YtkoopdoeehoigaaWMore
namespace Go.Proofs.Ytkoopdoeehoigaa.SoundGraph
open Go.RowKit Go.Proofs.YtkoopdoeehoigaaW.PrintWords
set_option linter.unusedVariables false
/-- A function's operations: how many, what each pops and pushes, and where each may continue. -/
structure Gr where
  N : Nat
  pops : Int → Int
  push : Int → Int
  ways : Int → List Int
/-- Heights that are right: the first is 0; where there is one, its operation bears it, and what follows has what is left. -/
structure Sol (G : Gr) (h : List Int) : Prop where
  len : h.length = G.N
  pos : 0 < G.N
  zero : rd h 0 = 0
  on : ∀ k : Int, 0 ≤ k → k < G.N → 0 ≤ rd h k → G.pops k ≤ rd h k ∧ rd h k - G.pops k + G.push k ≤ 256 ∧ ∀ t ∈ G.ways k, 0 ≤ t ∧ t < G.N ∧ rd h t = rd h k - G.pops k + G.push k
inductive Reach (G : Gr) : Int → Prop
  | zero : Reach G 0
  | on {k t : Int} : Reach G k → t ∈ G.ways k → Reach G t
/-- The least one. -/
structure Least (G : Gr) (h : List Int) : Prop where
  sol : Sol G h
  low : ∀ k : Int, 0 ≤ k → k < G.N → -1 ≤ rd h k
  reach : ∀ k : Int, 0 ≤ k → k < G.N → 0 ≤ rd h k → Reach G k
/-- Nothing is pushed below nothing. -/
def Fine (G : Gr) : Prop := ∀ k : Int, 0 ≤ k → k < G.N → 0 ≤ G.pops k ∧ 0 ≤ G.push k ∧ ∀ t ∈ G.ways k, 0 ≤ t ∧ t ≤ G.N
theorem reach_same {G : Gr} (F : Fine G) {a b : List Int} (ha : Sol G a) (hb : Sol G b) {k : Int} (h : Reach G k) : 0 ≤ k ∧ k < G.N ∧ 0 ≤ rd a k ∧ rd a k = rd b k := by
  induction h with
  | zero => have := ha.pos; rw [ha.zero, hb.zero]; omega
  | on hk ht ih =>
    obtain ⟨k0, k1, a0, e⟩ := ih
    obtain ⟨a1, a2, a3⟩ := ha.on _ k0 k1 a0
    obtain ⟨b1, b2, b3⟩ := hb.on _ k0 k1 (by omega)
    obtain ⟨t0, t1, ta⟩ := a3 _ ht
    obtain ⟨_, _, tb⟩ := b3 _ ht
    have := F _ k0 k1
    rw [ta, tb, e]
    omega
theorem rd_eq {l : List Int} {i : Nat} (h : i < l.length) : rd l (i : Int) = l[i] := by
  unfold rd
  rw [Int.toNat_natCast, List.getD_eq_getElem?_getD, List.getElem?_eq_getElem h]; rfl
theorem rd_put {l : List Int} {i j v : Int} (h0 : 0 ≤ i) (h1 : i < l.length) (h2 : 0 ≤ j) : rd (l.set i.toNat v) j = if i = j then v else rd l j := by
  unfold rd
  rw [List.getD_eq_getElem?_getD, List.getD_eq_getElem?_getD, List.getElem?_set]
  by_cases h : i = j
  · subst h; rw [if_pos rfl, if_pos (by omega), if_pos rfl]; rfl
  · rw [if_neg (by omega), if_neg h]
theorem Least.unique {G : Gr} (F : Fine G) {a b : List Int} (ha : Least G a) (hb : Least G b) : a = b := by
  refine List.ext_getElem (ha.sol.len.trans hb.sol.len.symm) fun i h1 h2 => ?_
  have hl := ha.sol.len
  rw [← rd_eq h1, ← rd_eq h2]
  have i0 : (0 : Int) ≤ (i : Int) := by omega
  have i1 : (i : Int) < (G.N : Int) := by omega
  have la := ha.low (i : Int) i0 i1
  have lb := hb.low (i : Int) i0 i1
  by_cases c : 0 ≤ rd a (i : Int)
  · exact (reach_same F ha.sol hb.sol (ha.reach _ i0 i1 c)).2.2.2
  · by_cases d : 0 ≤ rd b (i : Int)
    · have := (reach_same F ha.sol hb.sol (hb.reach _ i0 i1 d)).2
      omega
    · omega
/-- An operation is done with: its height is borne, and what follows has what is left. -/
def Done (G : Gr) (h : List Int) (k : Int) : Prop := G.pops k ≤ rd h k ∧ rd h k - G.pops k + G.push k ≤ 256 ∧ ∀ t ∈ G.ways k, 0 ≤ t ∧ t < G.N ∧ rd h t = rd h k - G.pops k + G.push k
/-- What holds on the way: what has a height is reached, and has it in every right assignment. -/
structure Mid (G : Gr) (h : List Int) : Prop where
  len : h.length = G.N
  low : ∀ k : Int, 0 ≤ k → k < G.N → -1 ≤ rd h k
  reach : ∀ k : Int, 0 ≤ k → k < G.N → 0 ≤ rd h k → Reach G k
  same : ∀ s, Sol G s → ∀ k : Int, 0 ≤ k → k < G.N → 0 ≤ rd h k → rd s k = rd h k
/-- How many have no height. -/
def bare (h : List Int) : Nat := h.countP fun x => decide (x < 0)
theorem bare_put {x : Int} (hx : 0 ≤ x) : ∀ {l : List Int} {i : Nat} (h : i < l.length), l[i] < 0 → bare (l.set i x) + 1 = bare l
  | a :: l, 0, h, h1 => by
    simp only [List.getElem_cons_zero] at h1
    simp only [bare, List.set_cons_zero, List.countP_cons, decide_eq_true h1, if_true]
    rw [decide_eq_false (by omega)]; simp
  | a :: l, i + 1, h, h1 => by
    have := bare_put hx (l := l) (i := i) (by simpa using h) (by simpa using h1)
    simp only [bare, List.set_cons_succ, List.countP_cons] at this ⊢
    omega
theorem bare_le (l : List Int) : bare l ≤ l.length := List.countP_le_length
theorem Mid.put {G : Gr} {h : List Int} (M : Mid G h) {k n : Int} (k0 : 0 ≤ k) (k1 : k < G.N) (hk : rd h k < 0) (hn : 0 ≤ n) (hr : Reach G k) (hs : ∀ s, Sol G s → rd s k = n) : Mid G (h.set k.toNat n) ∧ bare (h.set k.toNat n) + 1 = bare h ∧ (∀ j : Int, 0 ≤ j → rd (h.set k.toNat n) j = if k = j then n else rd h j) := by
  have hl := M.len
  have e : ∀ j : Int, 0 ≤ j → rd (h.set k.toNat n) j = if k = j then n else rd h j := fun j hj => rd_put k0 (by omega) hj
  refine ⟨⟨by rw [List.length_set]; exact hl, fun j a b => ?_, fun j a b c => ?_, fun s S j a b c => ?_⟩, bare_put hn (by omega) ?_, e⟩
  · rw [e j a]; have := M.low j a b; split <;> omega
  · rw [e j a] at c
    by_cases q : k = j
    · subst q; exact hr
    · rw [if_neg q] at c; exact M.reach j a b c
  · rw [e j a] at c ⊢
    by_cases q : k = j
    · subst q; rw [if_pos rfl]; exact hs s S
    · rw [if_neg q] at c ⊢; exact M.same s S j a b c
  · have := rd_eq (l := h) (i := k.toNat) (by omega)
    rw [Int.toNat_of_nonneg k0] at this
    omega
/-- More heights. -/
def Ext (G : Gr) (a b : List Int) : Prop := ∀ k : Int, 0 ≤ k → k < G.N → 0 ≤ rd a k → rd b k = rd a k
theorem Ext.refl (G : Gr) (a : List Int) : Ext G a a := fun _ _ _ _ => rfl
theorem Ext.trans {G : Gr} {a b c : List Int} (h1 : Ext G a b) (h2 : Ext G b c) : Ext G a c := fun k k0 k1 h => by
  have := h1 k k0 k1 h
  rw [h2 k k0 k1 (by omega), this]
theorem Done.ext {G : Gr} (F : Fine G) {a b : List Int} {k : Int} (k0 : 0 ≤ k) (k1 : k < G.N) (hk : 0 ≤ rd a k) (h : Ext G a b) (d : Done G a k) : Done G b k := by
  have e := h k k0 k1 hk
  obtain ⟨d1, d2, d3⟩ := d
  have := F k k0 k1
  refine ⟨by omega, by omega, fun t ht => ?_⟩
  obtain ⟨t0, t1, te⟩ := d3 t ht
  exact ⟨t0, t1, by rw [h t t0 t1 (by omega), te, e]⟩
/-- The reference's walk. -/
def walkP (G : Gr) (jmp nxt : Int → Bool) (A : Int → Int) : Nat → List Int → Bool → Int → Int → Option (List Int × Bool)
  | 0, _, _, _, _ => none
  | m + 1, h, bad, k, n =>
    if bad = true then some (h, true) else if k = G.N then some (h, true) else if k < 0 ∨ G.N < k then none else if rd h k ≥ 0 then some (h, decide (rd h k ≠ n)) else
    if n < G.pops k ∨ n - G.pops k + G.push k > 256 then some (h.set k.toNat n, true) else
    (if jmp k = true then walkP G jmp nxt A m (h.set k.toNat n) false (A k) (n - G.pops k + G.push k) else some (h.set k.toNat n, false)).bind fun x =>
    if nxt k = true then walkP G jmp nxt A m x.1 x.2 (k + 1) (n - G.pops k + G.push k) else some x
/-- The ways of an operation are those of the walk. -/
def Ways (G : Gr) (jmp nxt : Int → Bool) (A : Int → Int) : Prop := ∀ k : Int, 0 ≤ k → k < G.N → ∀ t, t ∈ G.ways k ↔ (jmp k = true ∧ t = A k) ∨ (nxt k = true ∧ t = k + 1)
section
variable {G : Gr} {jmp nxt : Int → Bool} {A : Int → Int}
theorem walk_ok (F : Fine G) (Wy : Ways G jmp nxt A) : ∀ (m : Nat) (h : List Int) (k n : Int), Mid G h → bare h < m → 0 ≤ n → 0 ≤ k → k ≤ G.N → Reach G k → (∀ s, Sol G s → k < G.N ∧ rd s k = n) →
    ∃ h' b', walkP G jmp nxt A m h false k n = some (h', b') ∧ h'.length = G.N ∧ (b' = true → ¬ ∃ s, Sol G s) ∧
      (b' = false → Mid G h' ∧ Ext G h h' ∧ bare h' ≤ bare h ∧ k < G.N ∧ rd h' k = n ∧ ∀ j : Int, 0 ≤ j → j < G.N → rd h j < 0 → 0 ≤ rd h' j → Done G h' j) := by
  intro m
  induction m with
  | zero => intro h k n M hm; omega
  | succ m ih =>
    intro h k n M hm hn k0 kN hr hs
    unfold walkP
    rw [if_neg (by simp)]
    by_cases c1 : k = G.N
    · rw [if_pos c1]
      exact ⟨h, true, rfl, M.len, fun _ ⟨s, S⟩ => by have := hs s S; omega, fun e => by simp at e⟩
    have k1 : k < G.N := by omega
    rw [if_neg c1, if_neg (by omega)]
    by_cases c2 : rd h k ≥ 0
    · rw [if_pos c2]
      refine ⟨h, _, rfl, M.len, fun e ⟨s, S⟩ => ?_, fun e => ⟨M, Ext.refl _ _, Nat.le_refl _, k1, ?_, fun j a b c d => by omega⟩⟩
      · have e := of_decide_eq_true e
        have := M.same s S k k0 k1 c2
        have := (hs s S).2
        omega
      · have e := of_decide_eq_false e
        omega
    rw [if_neg c2]
    obtain ⟨M1, hb1, e1⟩ := M.put k0 k1 (by omega) hn hr fun s S => (hs s S).2
    have ek : rd (h.set k.toNat n) k = n := by rw [e1 k k0, if_pos rfl]
    have F1 := F k k0 k1
    have x1 : Ext G h (h.set k.toNat n) := fun j a b c => by
      rw [e1 j a, if_neg (by intro q; subst q; omega)]
    by_cases c3 : n < G.pops k ∨ n - G.pops k + G.push k > 256
    · rw [if_pos c3]
      refine ⟨_, true, rfl, M1.len, fun _ ⟨s, S⟩ => ?_, fun e => by simp at e⟩
      have := (hs s S).2
      have := S.on k k0 k1 (by omega)
      omega
    rw [if_neg c3]
    have sol_t : ∀ s, Sol G s → ∀ t ∈ G.ways k, t < G.N ∧ rd s t = n - G.pops k + G.push k := fun s S t ht => by
      have e := (hs s S).2
      have := (S.on k k0 k1 (by omega)).2.2 t ht
      rw [e] at this
      exact this.2
    -- the first way
    have first : ∃ h2 b2, (if jmp k = true then walkP G jmp nxt A m (h.set k.toNat n) false (A k) (n - G.pops k + G.push k) else some (h.set k.toNat n, false)) = some (h2, b2) ∧ h2.length = G.N ∧ (b2 = true → ¬ ∃ s, Sol G s) ∧
        (b2 = false → Mid G h2 ∧ Ext G (h.set k.toNat n) h2 ∧ bare h2 ≤ bare (h.set k.toNat n) ∧ (jmp k = true → A k < G.N ∧ rd h2 (A k) = n - G.pops k + G.push k) ∧ ∀ j : Int, 0 ≤ j → j < G.N → rd (h.set k.toNat n) j < 0 → 0 ≤ rd h2 j → Done G h2 j) := by
      by_cases cj : jmp k = true
      · have wt : A k ∈ G.ways k := (Wy k k0 k1 _).2 (.inl ⟨cj, rfl⟩)
        have ft := F1.2.2 _ wt
        obtain ⟨h2, b2, p1, p2, p3, p4⟩ := ih (h.set k.toNat n) (A k) (n - G.pops k + G.push k) M1 (by omega) (by omega) ft.1 ft.2 (.on hr wt) fun s S => sol_t s S _ wt
        rw [if_pos cj]
        exact ⟨h2, b2, p1, p2, p3, fun e => ⟨(p4 e).1, (p4 e).2.1, (p4 e).2.2.1, fun _ => ⟨(p4 e).2.2.2.1, (p4 e).2.2.2.2.1⟩, (p4 e).2.2.2.2.2⟩⟩
      · rw [if_neg cj]
        exact ⟨_, false, rfl, M1.len, fun e => by simp at e, fun _ => ⟨M1, Ext.refl _ _, Nat.le_refl _, fun e => absurd e cj, fun j a b c d => by omega⟩⟩
    obtain ⟨h2, b2, p1, p2, p3, p4⟩ := first
    rw [p1]
    simp only [Option.bind_some]
    -- the second way
    have second : ∃ h3 b3, (if nxt k = true then walkP G jmp nxt A m h2 b2 (k + 1) (n - G.pops k + G.push k) else some (h2, b2)) = some (h3, b3) ∧ h3.length = G.N ∧ (b3 = true → ¬ ∃ s, Sol G s) ∧
        (b3 = false → b2 = false ∧ Mid G h3 ∧ Ext G h2 h3 ∧ bare h3 ≤ bare h2 ∧ (nxt k = true → k + 1 < G.N ∧ rd h3 (k + 1) = n - G.pops k + G.push k) ∧ ∀ j : Int, 0 ≤ j → j < G.N → rd h2 j < 0 → 0 ≤ rd h3 j → Done G h3 j) := by
      by_cases cn : nxt k = true
      · rw [if_pos cn]
        cases hb2 : b2 with
        | true =>
          refine ⟨h2, true, ?_, p2, fun _ => p3 hb2, fun e => by simp at e⟩
          obtain ⟨m', rfl⟩ : ∃ m', m = m' + 1 := ⟨m - 1, by have := bare_le h; omega⟩
          rw [walkP, if_pos rfl]
        | false =>
          obtain ⟨q1, q2, q3, q4, q5⟩ := p4 hb2
          have wt : k + 1 ∈ G.ways k := (Wy k k0 k1 _).2 (.inr ⟨cn, rfl⟩)
          have ft := F1.2.2 _ wt
          obtain ⟨h3, b3, r1, r2, r3, r4⟩ := ih h2 (k + 1) (n - G.pops k + G.push k) q1 (by omega) (by omega) ft.1 ft.2 (.on hr wt) fun s S => sol_t s S _ wt
          exact ⟨h3, b3, r1, r2, r3, fun e => ⟨rfl, (r4 e).1, (r4 e).2.1, (r4 e).2.2.1, fun _ => ⟨(r4 e).2.2.2.1, (r4 e).2.2.2.2.1⟩, (r4 e).2.2.2.2.2⟩⟩
      · rw [if_neg cn]
        exact ⟨h2, b2, rfl, p2, p3, fun e => ⟨e, (p4 e).1, Ext.refl _ _, Nat.le_refl _, fun e => absurd e cn, fun j a b c d => by omega⟩⟩
    obtain ⟨h3, b3, r1, r2, r3, r4⟩ := second
    refine ⟨h3, b3, r1, r2, r3, fun e => ?_⟩
    obtain ⟨s1, s2, s3, s4, s5, s6⟩ := r4 e
    obtain ⟨q1, q2, q3, q4, q5⟩ := p4 s1
    have x13 : Ext G (h.set k.toNat n) h3 := q2.trans s3
    have e3k : rd h3 k = n := by rw [x13 k k0 k1 (by omega), ek]
    have dk : Done G h3 k := by
      refine ⟨by omega, by omega, fun t ht => ?_⟩
      rw [e3k]
      rcases (Wy k k0 k1 t).1 ht with ⟨cj, rfl⟩ | ⟨cn, rfl⟩
      · obtain ⟨t1, te⟩ := q4 cj
        have t0 := (F1.2.2 _ ht).1
        exact ⟨t0, t1, by rw [s3 _ t0 t1 (by omega), te]⟩
      · obtain ⟨t1, te⟩ := s5 cn
        exact ⟨by omega, t1, te⟩
    refine ⟨s2, x1.trans x13, by omega, k1, e3k, fun j a b c d => ?_⟩
    by_cases qk : k = j
    · subst qk; exact dk
    · have ej : rd (h.set k.toNat n) j < 0 := by rw [e1 j a, if_neg qk]; exact c
      by_cases d2 : 0 ≤ rd h2 j
      · exact (q5 j a b ej d2).ext F a b d2 s3
      · exact s6 j a b (by omega) d
/-- The reference's heights. -/
theorem walk_all (F : Fine G) (Wy : Ways G jmp nxt A) (hp : 0 < G.N) : ∃ h b, walkP G jmp nxt A (G.N + 1) (List.replicate G.N (-1)) false 0 0 = some (h, b) ∧ (b = true → ¬ ∃ s, Sol G s) ∧ (b = false → Least G h) := by
  have e : ∀ k : Int, 0 ≤ k → k < G.N → rd (List.replicate G.N (-1)) k = -1 := fun k a b => by
    have := rd_eq (l := List.replicate G.N (-1 : Int)) (i := k.toNat) (by simp; omega)
    rw [Int.toNat_of_nonneg a] at this
    rw [this]; simp
  have M : Mid G (List.replicate G.N (-1)) := ⟨by simp, fun k a b => by rw [e k a b]; omega, fun k a b c => by rw [e k a b] at c; omega, fun s S k a b c => by rw [e k a b] at c; omega⟩
  obtain ⟨h, b, h1, h2, h3, h4⟩ := walk_ok F Wy (G.N + 1) _ 0 0 M (by have := bare_le (List.replicate G.N (-1 : Int)); simp at this; omega) (by omega) (by omega) (by omega) .zero fun s S => ⟨by omega, S.zero⟩
  refine ⟨h, b, h1, h3, fun e' => ?_⟩
  obtain ⟨q1, q2, q3, q4, q5, q6⟩ := h4 e'
  refine ⟨⟨h2, hp, q5, fun k a b c => ?_⟩, q1.low, q1.reach⟩
  exact q6 k a b (by rw [e k a b]; omega) c
end
end Go.Proofs.Ytkoopdoeehoigaa.SoundGraph
