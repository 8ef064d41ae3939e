/- The program's heights: the least right ones, or there are none. Under the conditions that stand at each. -/
import Derived.Test.YtkoopdoeehoigaaSoundOpsSoundTells
namespace Go.Proofs.Ytkoopdoeehoigaa.SoundRunSoundTells
open Go Go.RowKit Go.Proofs.YtkoopdoeehoigaaW.PrintWords Go.Proofs.YtkoopdoeehoigaaW.PrintLast Go.Proofs.YtkoopdoeehoigaaW.PrintMore Go.Proofs.Ytkoopdoeehoigaa.PSoundTells Go.Proofs.Ytkoopdoeehoigaa.SoundGraph Go.Proofs.Ytkoopdoeehoigaa.SoundOpsSoundTells
set_option linter.unusedVariables false
abbrev opnAt (ops : List Opn) (k : Int) : Opn := rd_T26 ops k
abbrev funAt (l : List Fnt) (i : Int) : Fnt := rd_T29 l i
def Gf (l : List Fnt) (ops : List Opn) : Gr where
  N := ops.length
  pops := fun k => (takesP l (opnAt ops k).f0 (opnAt ops k).f1).1
  push := fun k => (takesP l (opnAt ops k).f0 (opnAt ops k).f1).2
  ways := fun k => if (opnAt ops k).f0 = 18 then [] else if (opnAt ops k).f0 = 15 then [(opnAt ops k).f1] else if (opnAt ops k).f0 = 16 then [k + 1, (opnAt ops k).f1] else [k + 1]
structure Valid (l : List Fnt) (f1 : Int) (ops : List Opn) : Prop where
  few : ops.length ≤ 4000
  par : ∀ g ∈ l, 0 ≤ g.f0 ∧ g.f0 ≤ 6
  ok : ∀ o ∈ ops, errP l.length f1 ops.length o.f0 o.f1 = 0
theorem op_mem {ops : List Opn} {k : Int} (h0 : 0 ≤ k) (h1 : k < ops.length) : opnAt ops k ∈ ops := by
  show List.getD _ _ _ ∈ ops
  rw [List.getD_eq_getElem?_getD, List.getElem?_eq_getElem (by omega)]
  exact List.getElem_mem _
theorem fun_mem {l : List Fnt} {i : Int} (h0 : 0 ≤ i) (h1 : i < l.length) : funAt l i ∈ l := by
  show List.getD _ _ _ ∈ l
  rw [List.getD_eq_getElem?_getD, List.getElem?_eq_getElem (by omega)]
  exact List.getElem_mem _
section
variable {l : List Fnt} {f1 : Int} {ops : List Opn}
theorem err_zero {nf nv no d a : Int} (h : errP nf nv no d a = 0) : 1 ≤ d ∧ d ≤ 20 ∧ (d ≠ 1 → 0 ≤ a ∧ a < limP nf nv no d) := by
  unfold errP at h
  by_cases c1 : d = 1
  · exact ⟨by omega, by omega, fun h => absurd c1 h⟩
  · rw [if_neg c1] at h
    by_cases c2 : d < 1 ∨ d > 20
    · rw [if_pos c2] at h; omega
    · rw [if_neg c2] at h
      by_cases c3 : a < 0 ∨ a ≥ limP nf nv no d
      · rw [if_pos c3] at h; omega
      · exact ⟨by omega, by omega, fun _ => by omega⟩
theorem takes_bound (V : Valid l f1 ops) {d a : Int} (h : errP l.length f1 ops.length d a = 0) : 0 ≤ (takesP l d a).1 ∧ (takesP l d a).1 ≤ 8 ∧ 0 ≤ (takesP l d a).2 ∧ (takesP l d a).2 ≤ 1 := by
  obtain ⟨e1, e2, e3⟩ := err_zero h
  unfold takesP
  by_cases c1 : d = 1 ∨ d = 2
  · rw [if_pos c1]; exact ⟨by decide, by decide, by decide, by decide⟩
  rw [if_neg c1]
  by_cases c2 : d = 3 ∨ d = 4 ∨ d = 16 ∨ d = 18 ∨ d = 19
  · rw [if_pos c2]; exact ⟨by decide, by decide, by decide, by decide⟩
  rw [if_neg c2]
  by_cases c3 : d = 5 ∨ d = 6
  · rw [if_pos c3]; exact ⟨by decide, by decide, by decide, by decide⟩
  rw [if_neg c3]
  by_cases c4 : d = 15
  · rw [if_pos c4]; exact ⟨by decide, by decide, by decide, by decide⟩
  rw [if_neg c4]
  by_cases c5 : d = 17
  · rw [if_pos c5]
    by_cases c6 : a < 0 ∨ a ≥ (l.length : Int)
    · rw [if_pos c6]; exact ⟨by decide, by decide, by decide, by decide⟩
    · rw [if_neg c6]
      have := V.par _ (fun_mem (l := l) (i := a) (by omega) (by omega))
      exact ⟨this.1, by have := this.2; show (funAt l a).f0 ≤ 8; omega, by show (0 : Int) ≤ 1; omega, by show (1 : Int) ≤ 1; omega⟩
  rw [if_neg c5]
  by_cases c6 : d = 20
  · rw [if_pos c6]
    have := e3 (by omega)
    have h1 := Int.tmod_lt_of_pos a (show (0 : Int) < 8 by omega)
    have h2 := Int.tmod_nonneg 8 this.1
    exact ⟨h2, by show Int.tmod a 8 ≤ 8; omega, by show (0 : Int) ≤ 1; omega, by show (1 : Int) ≤ 1; omega⟩
  · rw [if_neg c6]; exact ⟨by decide, by decide, by decide, by decide⟩
theorem jump_in (V : Valid l f1 ops) {k : Int} (k0 : 0 ≤ k) (k1 : k < ops.length) (h : (opnAt ops k).f0 = 15 ∨ (opnAt ops k).f0 = 16) : 0 ≤ (opnAt ops k).f1 ∧ (opnAt ops k).f1 < ops.length := by
  obtain ⟨e1, e2, e3⟩ := err_zero (V.ok _ (op_mem k0 k1))
  have := e3 (by omega)
  unfold limP at this
  rw [if_neg (by omega), if_pos h] at this
  exact this
theorem fine (V : Valid l f1 ops) : Fine (Gf l ops) := fun k k0 k1 => by
  obtain ⟨b1, b2, b3, b4⟩ := takes_bound V (V.ok _ (op_mem k0 k1))
  refine ⟨b1, b3, fun t ht => ?_⟩
  have hk : k < (ops.length : Int) := k1
  have J := jump_in V k0 hk
  show 0 ≤ t ∧ t ≤ (ops.length : Int)
  simp only [Gf] at ht
  by_cases c1 : (opnAt ops k).f0 = 18
  · rw [if_pos c1] at ht; simp at ht
  rw [if_neg c1] at ht
  by_cases c2 : (opnAt ops k).f0 = 15
  · rw [if_pos c2] at ht
    obtain rfl := List.mem_singleton.1 ht
    have := J (.inl c2); omega
  rw [if_neg c2] at ht
  by_cases c3 : (opnAt ops k).f0 = 16
  · rw [if_pos c3] at ht
    have := J (.inr c3)
    rcases List.mem_cons.1 ht with h | h
    · omega
    · obtain rfl := List.mem_singleton.1 h; omega
  · rw [if_neg c3] at ht
    obtain rfl := List.mem_singleton.1 ht; omega
theorem ways_ok (V : Valid l f1 ops) {k : Int} (k0 : 0 ≤ k) (k1 : k < ops.length) : sound_ways.f k (opnAt ops k).f0 (opnAt ops k).f1 = some ((Gf l ops).ways k) := by
  have hf := V.few
  have hw : wrap64 (k + 1) = k + 1 := wrap_in (by omega) (by omega)
  unfold sound_ways.f
  simp only [Gf, hw]
  split
  · rfl
  · split
    · rfl
    · split <;> rfl
/-- What holds between two operations. -/
structure PI (G : Gr) (h todo : List Int) : Prop where
  mid : Mid G h
  top : ∀ j : Int, 0 ≤ j → j < G.N → rd h j ≤ 256
  zero : rd h 0 = 0
  todoIn : ∀ t ∈ todo, 0 ≤ t ∧ t < G.N ∧ 0 ≤ rd h t
  done : ∀ j : Int, 0 ≤ j → j < G.N → 0 ≤ rd h j → j ∈ todo ∨ Done G h j
/-- What holds while an operation's ways are gone through. -/
structure QI (G : Gr) (h todo : List Int) (k n : Int) (idx : Nat) : Prop where
  mid : Mid G h
  top : ∀ j : Int, 0 ≤ j → j < G.N → rd h j ≤ 256
  zero : rd h 0 = 0
  todoIn : ∀ t ∈ todo, 0 ≤ t ∧ t < G.N ∧ 0 ≤ rd h t
  k0 : 0 ≤ k
  k1 : k < G.N
  hk : 0 ≤ rd h k
  pop : G.pops k ≤ rd h k
  nEq : n = rd h k - G.pops k + G.push k
  n1 : n ≤ 256
  part : ∀ t ∈ (G.ways k).take idx, 0 ≤ t ∧ t < G.N ∧ rd h t = n
  done : ∀ j : Int, 0 ≤ j → j < G.N → 0 ≤ rd h j → j = k ∨ j ∈ todo ∨ Done G h j
theorem ways_l (V : Valid l f1 ops) (m p0 p1 : Int) (k n : Int) : ∀ (d idx : Nat), idx + d = ((Gf l ops).ways k).length → ∀ h todo, QI (Gf l ops) h todo k n idx → 2 * bare h + todo.length ≤ 20000 →
    (∃ h' todo', PI (Gf l ops) h' todo' ∧ 2 * bare h' + todo'.length ≤ 2 * bare h + todo.length ∧ ∀ R, Ev (fun q => sound_heights.l1 q h' todo' l m p0 p1 ops) R → Ev (fun q => sound_heights.l2 q h todo n ((Gf l ops).ways k) (((Gf l ops).ways k).length : Int) (idx : Int) l m p0 p1 ops) R) ∨
    ((¬ ∃ s, Sol (Gf l ops) s) ∧ Ev (fun q => sound_heights.l2 q h todo n ((Gf l ops).ways k) (((Gf l ops).ways k).length : Int) (idx : Int) l m p0 p1 ops) ([], 7)) := by
  have hf := V.few
  have F := fine V
  intro d
  induction d with
  | zero =>
    intro idx hd h todo Q hm
    refine .inl ⟨h, todo, ⟨Q.mid, Q.top, Q.zero, Q.todoIn, fun j j0 j1 hj => ?_⟩, Nat.le_refl _, fun R hR => Ev.step (fun q => ?_) hR⟩
    · rcases Q.done j j0 j1 hj with rfl | h | h
      · refine .inr ⟨Q.pop, by rw [← Q.nEq]; exact Q.n1, fun t ht => ?_⟩
        have := Q.part t (by rw [List.take_of_length_le (by omega)]; exact ht)
        rw [← Q.nEq]; exact this
      · exact .inl h
      · exact .inr h
    · rw [sound_heights.l2, if_neg (by omega)]
  | succ d ih =>
    intro idx hd h todo Q hm
    have hl := Q.mid.len
    have hN : (Gf l ops).N = ops.length := rfl
    have i1 : (idx : Int) < (((Gf l ops).ways k).length : Int) := by omega
    have i0 : (0 : Int) ≤ (idx : Int) := by omega
    have i2 : idx < ((Gf l ops).ways k).length := by omega
    obtain ⟨t, ht⟩ : ∃ t, rd ((Gf l ops).ways k) (idx : Int) = t := ⟨_, rfl⟩
    have te : ((Gf l ops).ways k)[idx] = t := by rw [← ht, rd_eq i2]
    have tm : t ∈ (Gf l ops).ways k := by rw [← te]; exact List.getElem_mem _
    have Fk := F k Q.k0 Q.k1
    have tr := Fk.2.2 t tm
    have lenW : ((Gf l ops).ways k).length ≤ 2 := by simp only [Gf]; split; simp; split; simp; split <;> simp
    have hw : wrap64 ((idx : Int) + 1) = ((idx + 1 : Nat) : Int) := by rw [wrap_in (by omega) (by omega)]; rfl
    have n0 : 0 ≤ n := by rw [Q.nEq]; have := Q.pop; omega
    have sk : ∀ s, Sol (Gf l ops) s → 0 ≤ t ∧ t < (Gf l ops).N ∧ rd s t = n := fun s S => by
      have e := Q.mid.same s S k Q.k0 Q.k1 Q.hk
      have := (S.on k Q.k0 Q.k1 (by rw [e]; exact Q.hk)).2.2 t tm
      rw [e, ← Q.nEq] at this
      exact this
    have tk : ((Gf l ops).ways k).take (idx + 1) = ((Gf l ops).ways k).take idx ++ [t] := by rw [List.take_succ_eq_append_getElem i2, te]
    by_cases c1 : t = (ops.length : Int)
    · refine .inr ⟨fun ⟨s, S⟩ => by have := (sk s S).2.1; omega, Ev.step (f := fun _ => some ([], 7)) (fun q => ?_) (Ev.now _)⟩
      rw [sound_heights.l2, if_pos i1, if_pos i0, if_pos i1, ht, if_pos c1]
    have t1 : t < (ops.length : Int) := by omega
    have th : t < (h.length : Int) := by omega
    by_cases c2 : rd h t ≥ 0
    · by_cases c3 : rd h t = n
      · have Q2 : QI (Gf l ops) h todo k n (idx + 1) := ⟨Q.mid, Q.top, Q.zero, Q.todoIn, Q.k0, Q.k1, Q.hk, Q.pop, Q.nEq, Q.n1, fun u hu => by
          rw [tk] at hu
          rcases List.mem_append.1 hu with hu | hu
          · exact Q.part u hu
          · obtain rfl := List.mem_singleton.1 hu; exact ⟨tr.1, t1, c3⟩, Q.done⟩
        have go : ∀ R, Ev (fun q => sound_heights.l2 q h todo n ((Gf l ops).ways k) (((Gf l ops).ways k).length : Int) ((idx + 1 : Nat) : Int) l m p0 p1 ops) R → Ev (fun q => sound_heights.l2 q h todo n ((Gf l ops).ways k) (((Gf l ops).ways k).length : Int) (idx : Int) l m p0 p1 ops) R := fun R hR => by
          refine Ev.step (f := fun q => sound_heights.j4 q h todo n t ((Gf l ops).ways k) (((Gf l ops).ways k).length : Int) (idx : Int) false l m p0 p1 ops) (fun q => ?_) (Ev.step (fun q => ?_) hR)
          · rw [sound_heights.l2, if_pos i1, if_pos i0, if_pos i1, ht, if_neg c1, if_pos tr.1, if_pos th, if_pos c2, c3, bne_self_eq_false]
          · rw [sound_heights.j4, if_neg (by simp), if_pos tr.1, if_pos th, if_neg (by omega), hw]
        rcases ih (idx + 1) (by omega) h todo Q2 hm with ⟨h', todo', a, b, c⟩ | ⟨a, b⟩
        · exact .inl ⟨h', todo', a, b, fun R hR => go R (c R hR)⟩
        · exact .inr ⟨a, go _ b⟩
      · refine .inr ⟨fun ⟨s, S⟩ => ?_, ?_⟩
        · have e := Q.mid.same s S t tr.1 t1 c2
          have := (sk s S).2.2
          omega
        · refine Ev.step (f := fun q => sound_heights.j4 q h todo n t ((Gf l ops).ways k) (((Gf l ops).ways k).length : Int) (idx : Int) true l m p0 p1 ops) (fun q => ?_) (Ev.step (f := fun _ => some ([], 7)) (fun q => ?_) (Ev.now _))
          · rw [sound_heights.l2, if_pos i1, if_pos i0, if_pos i1, ht, if_neg c1, if_pos tr.1, if_pos th, if_pos c2, (by simpa using c3 : (rd h t != n) = true)]
          · rw [sound_heights.j4, if_pos rfl]
    · have hr : SoundGraph.Reach (Gf l ops) t := .on (Q.mid.reach k Q.k0 Q.k1 Q.hk) tm
      obtain ⟨M2, hb2, e2⟩ := Q.mid.put tr.1 t1 (by omega) n0 hr fun s S => (sk s S).2.2
      have kt : t ≠ k := fun e => by subst e; exact c2 Q.hk
      have x2 : Ext (Gf l ops) h (h.set t.toNat n) := fun j j0 j1 hj => by rw [e2 j j0, if_neg (fun e => by subst e; exact c2 hj)]
      have ek := x2 k Q.k0 Q.k1 Q.hk
      have Q2 : QI (Gf l ops) (h.set t.toNat n) (todo ++ [t]) k n (idx + 1) := by
        refine ⟨M2, fun j j0 j1 => ?_, ?_, fun u hu => ?_, Q.k0, Q.k1, by rw [ek]; exact Q.hk, by rw [ek]; exact Q.pop, by rw [ek]; exact Q.nEq, Q.n1, fun u hu => ?_, fun j j0 j1 hj => ?_⟩
        · rw [e2 j j0]
          split
          · exact Q.n1
          · exact Q.top j j0 j1
        · rw [e2 0 (by omega), if_neg (fun e => by subst e; have := Q.zero; omega)]; exact Q.zero
        · rcases List.mem_append.1 hu with hu | hu
          · obtain ⟨u0, u1, u2⟩ := Q.todoIn u hu
            exact ⟨u0, u1, by rw [x2 u u0 u1 u2]; exact u2⟩
          · obtain rfl := List.mem_singleton.1 hu
            exact ⟨tr.1, t1, by rw [e2 u tr.1, if_pos rfl]; exact n0⟩
        · rw [tk] at hu
          rcases List.mem_append.1 hu with hu | hu
          · obtain ⟨u0, u1, u2⟩ := Q.part u hu
            exact ⟨u0, u1, by rw [x2 u u0 u1 (by omega)]; exact u2⟩
          · obtain rfl := List.mem_singleton.1 hu
            exact ⟨tr.1, t1, by rw [e2 u tr.1, if_pos rfl]⟩
        · by_cases q : t = j
          · subst q; exact .inr (.inl (List.mem_append.2 (.inr (List.mem_singleton.2 rfl))))
          · rw [e2 j j0, if_neg q] at hj
            rcases Q.done j j0 j1 hj with h | h | h
            · exact .inl h
            · exact .inr (.inl (List.mem_append.2 (.inl h)))
            · exact .inr (.inr (h.ext F j0 j1 hj x2))
      have go : ∀ R, Ev (fun q => sound_heights.l2 q (h.set t.toNat n) (todo ++ [t]) n ((Gf l ops).ways k) (((Gf l ops).ways k).length : Int) ((idx + 1 : Nat) : Int) l m p0 p1 ops) R → Ev (fun q => sound_heights.l2 q h todo n ((Gf l ops).ways k) (((Gf l ops).ways k).length : Int) (idx : Int) l m p0 p1 ops) R := fun R hR => by
        refine Ev.step (f := fun q => sound_heights.j4 q h todo n t ((Gf l ops).ways k) (((Gf l ops).ways k).length : Int) (idx : Int) false l m p0 p1 ops) (fun q => ?_) (Ev.step (fun q => ?_) hR)
        · rw [sound_heights.l2, if_pos i1, if_pos i0, if_pos i1, ht, if_neg c1, if_pos tr.1, if_pos th, if_neg c2]
        · rw [sound_heights.j4, if_neg (by simp), if_pos tr.1, if_pos th, if_pos (by omega), if_pos (by omega), hw]
      have hlen : (todo ++ [t]).length = todo.length + 1 := by simp
      rcases ih (idx + 1) (by omega) _ _ Q2 (by omega) with ⟨h', todo', a, b, c⟩ | ⟨a, b⟩
      · exact .inl ⟨h', todo', a, by omega, fun R hR => go R (c R hR)⟩
      · exact .inr ⟨a, go _ b⟩
theorem todo_l (V : Valid l f1 ops) (m p0 p1 : Int) : ∀ (M : Nat) (h todo : List Int), 2 * bare h + todo.length = M → M ≤ 20000 → PI (Gf l ops) h todo → 0 < ops.length →
    (∃ r, Least (Gf l ops) r ∧ Ev (fun q => sound_heights.l1 q h todo l m p0 p1 ops) (r, 0)) ∨ ((¬ ∃ s, Sol (Gf l ops) s) ∧ Ev (fun q => sound_heights.l1 q h todo l m p0 p1 ops) ([], 7)) := by
  have hf := V.few
  have F := fine V
  intro M
  induction M using Nat.strongRecOn with
  | ind M ih =>
    intro h todo hM hm P hp
    have hl := P.mid.len
    have hN : (Gf l ops).N = ops.length := rfl
    rcases List.eq_nil_or_concat todo with rfl | ⟨t, k, ht⟩
    · refine .inl ⟨h, ⟨⟨hl, hp, P.zero, fun k k0 k1 hk => ?_⟩, P.mid.low, P.mid.reach⟩, Ev.step (f := fun _ => some (h, 0)) (fun q => ?_) (Ev.now _)⟩
      · rcases P.done k k0 k1 hk with h | h
        · simp at h
        · exact h
      · rw [sound_heights.l1, if_neg (by simp)]
    · rw [List.concat_eq_append] at ht
      subst ht
      obtain ⟨k0, k1, hk⟩ := P.todoIn k (by simp)
      have hlen : (t ++ [k]).length = t.length + 1 := by simp
      have w1 : wrap64 (((t ++ [k]).length : Int) - 1) = (t.length : Int) := by rw [hlen, wrap_in (by omega) (by omega)]; omega
      have rk : rd (t ++ [k]) (t.length : Int) = k := by rw [rd_eq (by omega)]; simp
      have tt : (t ++ [k]).take t.length = t := by simp
      have kh : k < (h.length : Int) := by omega
      have ko : k < (ops.length : Int) := by omega
      have top := P.top k k0 k1
      obtain ⟨b1, b2, b3, b4⟩ := takes_bound V (V.ok _ (op_mem k0 ko))
      have ww : wrap64 (wrap64 (rd h k - (takesP l (opnAt ops k).f0 (opnAt ops k).f1).1) + (takesP l (opnAt ops k).f0 (opnAt ops k).f1).2) = rd h k - (Gf l ops).pops k + (Gf l ops).push k := by
        rw [wrap_in (x := rd h k - (takesP l (opnAt ops k).f0 (opnAt ops k).f1).1) (by omega) (by omega), wrap_in (by omega) (by omega)]; rfl
      have at1 : ∀ R, Ev (fun q => if (rd h k) < (takesP l (opnAt ops k).f0 (opnAt ops k).f1).1 then sound_heights.j2 q h t k (rd h k - (Gf l ops).pops k + (Gf l ops).push k) true l m p0 p1 ops (opnAt ops k).f0 (opnAt ops k).f1 else sound_heights.j2 q h t k (rd h k - (Gf l ops).pops k + (Gf l ops).push k) (decide (rd h k - (Gf l ops).pops k + (Gf l ops).push k > 256)) l m p0 p1 ops (opnAt ops k).f0 (opnAt ops k).f1) R → Ev (fun q => sound_heights.l1 q h (t ++ [k]) l m p0 p1 ops) R := fun R hR => by
        refine Ev.step (f := fun q => (sound_Takes.f q l m (opnAt ops k).f0 (opnAt ops k).f1).bind fun bt => if (rd h k) < bt.1 then sound_heights.j2 q h t k (wrap64 (wrap64 (rd h k - bt.1) + bt.2)) true l m p0 p1 ops (opnAt ops k).f0 (opnAt ops k).f1 else sound_heights.j2 q h t k (wrap64 (wrap64 (rd h k - bt.1) + bt.2)) (decide (wrap64 (wrap64 (rd h k - bt.1) + bt.2) > 256)) l m p0 p1 ops (opnAt ops k).f0 (opnAt ops k).f1) (fun q => ?_) (Ev.bind (takes_ev l m (opnAt ops k).f0 (opnAt ops k).f1) ?_)
        · rw [sound_heights.l1, if_pos (by omega), w1, if_pos (by omega), if_pos (by omega), if_pos (by omega), rk, Int.toNat_natCast, tt]
          simp only [Option.bind_some, if_pos k0, if_pos ko, if_pos kh]
        · simp only [ww]; exact hR
      have bad : ((rd h k) < (Gf l ops).pops k ∨ rd h k - (Gf l ops).pops k + (Gf l ops).push k > 256) → ¬ ∃ s, Sol (Gf l ops) s := fun hb ⟨s, S⟩ => by
        have e := P.mid.same s S k k0 k1 hk
        have := S.on k k0 k1 (by omega)
        rw [e] at this
        omega
      by_cases c1 : (rd h k) < (Gf l ops).pops k
      · refine .inr ⟨bad (.inl c1), at1 _ (Ev.congr (fun q => if_pos c1) (Ev.step (f := fun _ => some ([], 7)) (fun q => ?_) (Ev.now _)))⟩
        rw [sound_heights.j2, if_pos rfl]
      · by_cases c2 : rd h k - (Gf l ops).pops k + (Gf l ops).push k > 256
        · refine .inr ⟨bad (.inr c2), at1 _ (Ev.congr (fun q => if_neg c1) (Ev.step (f := fun _ => some ([], 7)) (fun q => ?_) (Ev.now _)))⟩
          rw [sound_heights.j2, if_pos (decide_eq_true c2)]
        · have Q : QI (Gf l ops) h t k (rd h k - (Gf l ops).pops k + (Gf l ops).push k) 0 := ⟨P.mid, P.top, P.zero, fun u hu => P.todoIn u (List.mem_append.2 (.inl hu)), k0, k1, hk, by omega, rfl, by omega, fun u hu => by simp at hu, fun j j0 j1 hj => by
            rcases P.done j j0 j1 hj with h | h
            · rcases List.mem_append.1 h with h | h
              · exact .inr (.inl h)
              · exact .inl (List.mem_singleton.1 h)
            · exact .inr (.inr h)⟩
          have go : ∀ R, Ev (fun q => sound_heights.l2 q h t (rd h k - (Gf l ops).pops k + (Gf l ops).push k) ((Gf l ops).ways k) (((Gf l ops).ways k).length : Int) ((0 : Nat) : Int) l m p0 p1 ops) R → Ev (fun q => sound_heights.l1 q h (t ++ [k]) l m p0 p1 ops) R := fun R hR => by
            refine at1 _ (Ev.congr (fun q => if_neg c1) (Ev.step (fun q => ?_) hR))
            rw [sound_heights.j2, if_neg (by simpa using c2), ways_ok V k0 ko]
            rfl
          rcases ways_l V m p0 p1 k _ _ 0 (Nat.zero_add _) h t Q (by omega) with ⟨h', todo', a, b, c⟩ | ⟨a, b⟩
          · rcases ih _ (by omega) h' todo' rfl (by omega) a hp with ⟨r, r1, r2⟩ | ⟨r1, r2⟩
            · exact .inl ⟨r, r1, go _ (c _ r2)⟩
            · exact .inr ⟨r1, go _ (c _ r2)⟩
          · exact .inr ⟨a, go _ b⟩
theorem fill_l (V : Valid l f1 ops) (m p0 p1 : Int) (hp : 0 < ops.length) (R : List Int × Int) (hR : Ev (fun q => sound_heights.l1 q ((List.replicate ops.length (-1 : Int)).set 0 0) [0] l m p0 p1 ops) R) : ∀ (d i : Nat), i + d = ops.length → ∀ x : List Int, x.length = ops.length → (x.take i = List.replicate i (-1)) → Ev (fun q => sound_heights.l0 q x (ops.length : Int) (i : Int) l m p0 p1 ops) R := by
  have hf := V.few
  intro d
  induction d with
  | zero =>
    intro i hi x hx hz
    refine Ev.step (fun q => ?_) hR
    have e : x = List.replicate ops.length (-1) := by rw [List.take_of_length_le (by omega)] at hz; rw [hz]; congr 1
    rw [sound_heights.l0, if_neg (by omega), if_pos (by omega), e]
    rfl
  | succ d ih =>
    intro i hi x hx hz
    have i1 : (i : Int) < (ops.length : Int) := by omega
    have i2 : (i : Int) < (x.length : Int) := by omega
    have hw : wrap64 ((i : Int) + 1) = ((i + 1 : Nat) : Int) := by rw [wrap_in (by omega) (by omega)]; rfl
    refine Ev.step (fun q => ?_) (ih (i + 1) (by omega) (x.set i (-1)) (by rw [List.length_set]; exact hx) ?_)
    · rw [sound_heights.l0, if_pos i1, if_pos (by omega), if_pos i2, hw, Int.toNat_natCast]
    · rw [List.take_succ_eq_append_getElem (by rw [List.length_set]; omega), List.getElem_set_self, List.take_set_of_le (Nat.le_refl i), hz]
      exact (List.replicate_succ' ..).symm
/-- The program's heights of one function. -/
theorem prog_h (i : Int) (i0 : 0 ≤ i) (i1 : i < l.length) (m : Int) (V : Valid l (funAt l i).f1 (funAt l i).f2) : (∃ r, Least (Gf l (funAt l i).f2) r ∧ Ev (fun q => sound_heights.f q l m i) (r, 0)) ∨ ((¬ ∃ s, Sol (Gf l (funAt l i).f2) s) ∧ Ev (fun q => sound_heights.f q l m i) ([], 7)) := by
  have hf := V.few
  have hN : (Gf l (funAt l i).f2).N = (funAt l i).f2.length := rfl
  by_cases h0 : (funAt l i).f2.length = 0
  · refine .inr ⟨fun ⟨s, S⟩ => by have := S.pos; omega, Ev.congr (fun q => ?_) (Ev.now _)⟩
    unfold sound_heights.f
    rw [if_pos i0, if_pos i1, if_pos (by show ((funAt l i).f2.length : Int) = 0; omega)]
  · have start : ∀ R, Ev (fun q => sound_heights.l1 q ((List.replicate (funAt l i).f2.length (-1 : Int)).set 0 0) [0] l m (funAt l i).f0 (funAt l i).f1 (funAt l i).f2) R → Ev (fun q => sound_heights.f q l m i) R := fun R hR => by
      have L := fill_l V m (funAt l i).f0 (funAt l i).f1 (by omega) R hR (funAt l i).f2.length 0 (by omega) (List.replicate (funAt l i).f2.length 0) (by simp) (by simp)
      refine Ev.congr (fun q => ?_) L
      unfold sound_heights.f
      rw [if_pos i0, if_pos i1, if_neg (by show ¬ ((funAt l i).f2.length : Int) = 0; omega), if_pos (by omega), if_pos (by show ((funAt l i).f2.length : Int).toNat ≤ 35184372088832; omega)]
      simp only [Option.bind_some, Int.toNat_natCast, List.length_replicate]
      rfl
    have e : ∀ k : Int, 0 ≤ k → k < (funAt l i).f2.length → rd (List.replicate (funAt l i).f2.length (-1)) k = -1 := fun k a b => by
      have := rd_eq (l := List.replicate (funAt l i).f2.length (-1 : Int)) (i := k.toNat) (by simp; omega)
      rw [Int.toNat_of_nonneg a] at this
      rw [this]; simp
    have M : Mid (Gf l (funAt l i).f2) (List.replicate (funAt l i).f2.length (-1)) := ⟨by simp [hN], fun k a b => by rw [e k a b]; omega, fun k a b c => by rw [e k a b] at c; omega, fun s S k a b c => by rw [e k a b] at c; omega⟩
    obtain ⟨M1, hb, e1⟩ := M.put (k := 0) (n := 0) (by omega) (by omega) (by rw [e 0 (by omega) (by omega)]; omega) (by omega) .zero fun s S => S.zero
    rw [show (0 : Int).toNat = 0 from rfl] at M1 hb e1
    have hble := bare_le (List.replicate (funAt l i).f2.length (-1 : Int))
    simp only [List.length_replicate] at hble
    have P : PI (Gf l (funAt l i).f2) ((List.replicate (funAt l i).f2.length (-1 : Int)).set 0 0) [0] := by
      refine ⟨M1, fun j j0 j1 => ?_, by rw [e1 0 (by omega), if_pos rfl], fun t ht => ?_, fun j j0 j1 hj => ?_⟩
      · rw [e1 j j0]
        split
        · omega
        · rw [e j j0 (by omega)]; omega
      · obtain rfl := List.mem_singleton.1 ht
        exact ⟨by omega, by omega, by rw [e1 0 (by omega), if_pos rfl]; omega⟩
      · by_cases q : (0 : Int) = j
        · exact .inl (List.mem_singleton.2 q.symm)
        · rw [e1 j j0, if_neg q, e j j0 (by omega)] at hj; omega
    rcases todo_l V m (funAt l i).f0 (funAt l i).f1 _ _ _ rfl (by simp only [List.length_singleton]; omega) P (by omega) with ⟨r, a, b⟩ | ⟨a, b⟩
    · exact .inl ⟨r, a, start _ b⟩
    · exact .inr ⟨a, start _ b⟩
end
end Go.Proofs.Ytkoopdoeehoigaa.SoundRunSoundTells
