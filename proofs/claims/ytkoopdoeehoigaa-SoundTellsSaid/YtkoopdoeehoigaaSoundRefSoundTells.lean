/- The reference's heights are the program's. Under the conditions that stand at each. -/
import Derived.Test.YtkoopdoeehoigaaSoundRunSoundTells
namespace Go.Proofs.Ytkoopdoeehoigaa.SoundRefSoundTells
open Go Go.RowKit Go.Proofs.YtkoopdoeehoigaaW.PrintWords Go.Proofs.YtkoopdoeehoigaaW.PrintLast Go.Proofs.YtkoopdoeehoigaaW.PrintMore Go.Proofs.Ytkoopdoeehoigaa.PSoundTells Go.Proofs.Ytkoopdoeehoigaa.SoundGraph Go.Proofs.Ytkoopdoeehoigaa.SoundOpsSoundTells Go.Proofs.Ytkoopdoeehoigaa.SoundRunSoundTells
set_option linter.unusedVariables false
theorem walkP_len {G : Gr} {jmp nxt : Int → Bool} {A : Int → Int} : ∀ (m : Nat) (h : List Int) (b : Bool) (k n : Int) (x : List Int × Bool), walkP G jmp nxt A m h b k n = some x → x.1.length = h.length := by
  intro m
  induction m with
  | zero => intro h b k n x e; simp [walkP] at e
  | succ m ih =>
    intro h b k n x e
    rw [walkP] at e
    by_cases c1 : b = true
    · rw [if_pos c1] at e; obtain rfl := Option.some.inj e; rfl
    rw [if_neg c1] at e
    by_cases c2 : k = G.N
    · rw [if_pos c2] at e; obtain rfl := Option.some.inj e; rfl
    rw [if_neg c2] at e
    by_cases c3 : k < 0 ∨ G.N < k
    · rw [if_pos c3] at e; cases e
    rw [if_neg c3] at e
    by_cases c4 : rd h k ≥ 0
    · rw [if_pos c4] at e; obtain rfl := Option.some.inj e; rfl
    rw [if_neg c4] at e
    by_cases c5 : n < G.pops k ∨ n - G.pops k + G.push k > 256
    · rw [if_pos c5] at e; obtain rfl := Option.some.inj e; exact List.length_set
    rw [if_neg c5] at e
    obtain ⟨y, e1, e2⟩ := Option.bind_eq_some_iff.mp e
    have hy : y.1.length = h.length := by
      by_cases c6 : jmp k = true
      · rw [if_pos c6] at e1; rw [ih _ _ _ _ _ e1]; exact List.length_set
      · rw [if_neg c6] at e1; obtain rfl := Option.some.inj e1; exact List.length_set
    by_cases c7 : nxt k = true
    · rw [if_pos c7] at e2; rw [ih _ _ _ _ _ e2]; exact hy
    · rw [if_neg c7] at e2; obtain rfl := Option.some.inj e2; exact hy
theorem bind_same {α β : Type} {o : Option α} {f g : α → Option β} (h : ∀ x, o = some x → f x = g x) : o.bind f = o.bind g := by
  cases o with
  | none => rfl
  | some x => exact h x rfl
def jmpP (ops : List Opn) (k : Int) : Bool := decide ((opnAt ops k).f0 = 15 ∨ (opnAt ops k).f0 = 16)
def nxtP (ops : List Opn) (k : Int) : Bool := decide ((opnAt ops k).f0 ≠ 15 ∧ (opnAt ops k).f0 ≠ 18)
def toP (ops : List Opn) (k : Int) : Int := (opnAt ops k).f1
section
variable {l : List Fnt} {f1 : Int} {ops : List Opn}
theorem ways_same (ops : List Opn) : Ways (Gf l ops) (jmpP ops) (nxtP ops) (toP ops) := fun k k0 k1 t => by
  simp only [Gf, jmpP, nxtP, toP, decide_eq_true_eq]
  by_cases c1 : (opnAt ops k).f0 = 18
  · rw [if_pos c1]
    exact ⟨fun h => by simp at h, fun h => by omega⟩
  rw [if_neg c1]
  by_cases c2 : (opnAt ops k).f0 = 15
  · rw [if_pos c2, List.mem_singleton]
    exact ⟨fun h => .inl ⟨.inl c2, h⟩, fun h => by omega⟩
  rw [if_neg c2]
  by_cases c3 : (opnAt ops k).f0 = 16
  · rw [if_pos c3, List.mem_cons, List.mem_singleton]
    exact ⟨fun h => h.elim (fun h => .inr ⟨⟨c2, c1⟩, h⟩) fun h => .inl ⟨.inr c3, h⟩, fun h => h.elim (fun h => .inr h.2) fun h => .inl h.2⟩
  · rw [if_neg c3, List.mem_singleton]
    exact ⟨fun h => .inr ⟨⟨c2, c1⟩, h⟩, fun h => by omega⟩
theorem walk_eq (V : Valid l f1 ops) (m p0 : Int) : ∀ (fuel : Nat) (h : List Int) (b : Bool) (k n : Int), h.length = ops.length → 0 ≤ k → k ≤ ops.length → 0 ≤ n → n ≤ 256 →
    tourref5_heightsOf.walk l m p0 f1 ops fuel h b k n = walkP (Gf l ops) (jmpP ops) (nxtP ops) (toP ops) fuel h b k n := by
  have hf := V.few
  have hN : (Gf l ops).N = ops.length := rfl
  intro fuel
  induction fuel with
  | zero => intro h b k n _ _ _ _ _; rfl
  | succ fuel ih =>
    intro h b k n hl k0 kN n0 n1
    rw [tourref5_heightsOf.walk, walkP]
    by_cases c1 : b = true
    · rw [if_pos c1, if_pos c1]
    rw [if_neg c1, if_neg c1]
    by_cases c2 : k = (ops.length : Int)
    · rw [if_pos c2, if_pos (by omega)]
    have k1 : k < (ops.length : Int) := by omega
    rw [if_neg c2, if_neg (show ¬ k = ((Gf l ops).N : Int) by omega), if_pos ⟨k0, by omega, k1⟩, if_neg (show ¬ (k < 0 ∨ ((Gf l ops).N : Int) < k) by omega)]
    by_cases c4 : rd h k ≥ 0
    · rw [if_pos c4, if_pos c4]
      congr 2
      by_cases q : rd h k = n
      · rw [decide_eq_false (by simpa using q)]; simpa using q
      · rw [decide_eq_true q]; simpa using q
    rw [if_neg c4, if_neg c4]
    have eo := V.ok _ (op_mem k0 k1)
    obtain ⟨p, q, lim, ok, e, _, _, ht, _⟩ := opOf_says l m p0 f1 ops (opnAt ops k).f0 (opnAt ops k).f1
    have tb := takes_bound V eo
    have hpq := ht eo
    rw [hpq] at tb
    have gp : (Gf l ops).pops k = p := congrArg Prod.fst hpq
    have gq : (Gf l ops).push k = q := congrArg Prod.snd hpq
    rw [show tourref5_opOf.f l m p0 f1 ops (rd_T26 ops k).f0 (rd_T26 ops k).f1 = some (p, q, lim, ok) from e, gp, gq]
    simp only [Option.bind_some]
    have hw : wrap64 (wrap64 (n - p) + q) = n - p + q := by
      have := tb.1; have := tb.2.1; have := tb.2.2.1; have := tb.2.2.2
      simp only at *
      rw [wrap_in (x := n - p) (by omega) (by omega), wrap_in (by omega) (by omega)]
    rw [hw]
    by_cases c5 : n < p
    · rw [if_pos c5, if_pos (.inl c5)]
    rw [if_neg c5]
    by_cases c6 : n - p + q > 256
    · rw [if_pos c6, if_pos (.inr c6)]
    rw [if_neg c6, if_neg (show ¬ (n < p ∨ n - p + q > 256) by omega)]
    have q0 : 0 ≤ q := tb.2.2.1
    have hl2 : (h.set k.toNat n).length = ops.length := by rw [List.length_set]; exact hl
    have J := jump_in V k0 k1
    have first : (if (rd_T26 ops k).f0 = 15 ∨ (rd_T26 ops k).f0 = 16 then tourref5_heightsOf.walk l m p0 f1 ops fuel (h.set k.toNat n) false (rd_T26 ops k).f1 (n - p + q) else some (h.set k.toNat n, false)) =
        (if jmpP ops k = true then walkP (Gf l ops) (jmpP ops) (nxtP ops) (toP ops) fuel (h.set k.toNat n) false (toP ops k) (n - p + q) else some (h.set k.toNat n, false)) := by
      by_cases j : (opnAt ops k).f0 = 15 ∨ (opnAt ops k).f0 = 16
      · rw [if_pos j, if_pos (show jmpP ops k = true from decide_eq_true j)]
        exact ih _ _ _ _ hl2 (J j).1 (by have := (J j).2; show (opnAt ops k).f1 ≤ _; omega) (by omega) (by omega)
      · rw [if_neg j, if_neg (by unfold jmpP; simpa using j)]
    rw [first]
    refine bind_same fun x hx => ?_
    have hxl : x.1.length = ops.length := by
      by_cases j : jmpP ops k = true
      · rw [if_pos j] at hx; rw [walkP_len _ _ _ _ _ _ hx]; exact hl2
      · rw [if_neg j] at hx; obtain rfl := Option.some.inj hx; exact hl2
    have hk : wrap64 (k + 1) = k + 1 := wrap_in (by omega) (by omega)
    by_cases j : (opnAt ops k).f0 ≠ 15 ∧ (opnAt ops k).f0 ≠ 18
    · rw [if_pos j, if_pos (show nxtP ops k = true from decide_eq_true j), hk]
      exact ih _ _ _ _ hxl (by omega) (by omega) (by omega) (by omega)
    · rw [if_neg j, if_neg (by unfold nxtP; simpa using j)]
/-- The reference's heights of one function. -/
theorem ref_h (V : Valid l f1 ops) (m p0 : Int) : (∃ r, Least (Gf l ops) r ∧ Ev (fun q => tourref5_heightsOf.f q l m p0 f1 ops) (r, 0)) ∨ ((¬ ∃ s, Sol (Gf l ops) s) ∧ Ev (fun q => tourref5_heightsOf.f q l m p0 f1 ops) ([], 7)) := by
  have hf := V.few
  have hN : (Gf l ops).N = ops.length := rfl
  by_cases h0 : ops.length = 0
  · refine .inr ⟨fun ⟨s, S⟩ => by have := S.pos; omega, Ev.congr (fun q => ?_) (Ev.now _)⟩
    unfold tourref5_heightsOf.f
    rw [if_pos h0]
  · obtain ⟨h, b, e, hb, hg⟩ := walk_all (fine V) (ways_same (l := l) ops) (by omega)
    have run : tourref5_heightsOf.f (ops.length + 1) l m p0 f1 ops = (if b = true then some ([], 7) else some (h, 0)) := by
      unfold tourref5_heightsOf.f
      rw [if_neg h0, if_pos (by omega), walk_eq V m p0 _ _ _ _ _ (by simp) (by omega) (by omega) (by omega) (by omega)]
      rw [hN] at e
      rw [e]
      rfl
    cases hbb : b with
    | true =>
      refine .inr ⟨hb hbb, Ev.of (fun k => tourref5_heightsOf.mono l m p0 f1 ops k) (k := ops.length + 1) ?_⟩
      rw [run, if_pos hbb]
    | false =>
      refine .inl ⟨h, hg hbb, Ev.of (fun k => tourref5_heightsOf.mono l m p0 f1 ops k) (k := ops.length + 1) ?_⟩
      rw [run, if_neg (by rw [hbb]; simp)]
theorem both_h (i : Int) (i0 : 0 ≤ i) (i1 : i < l.length) (m : Int) (V : Valid l (funAt l i).f1 (funAt l i).f2) : ∃ r : List Int × Int, Ev (fun q => sound_heights.f q l m i) r ∧ Ev (fun q => tourref5_heightsOf.f q l m (funAt l i).f0 (funAt l i).f1 (funAt l i).f2) r ∧ r.1.length ≤ 4000 ∧ (r.2 = 0 ∨ r.2 = 7) := by
  have hf := V.few
  rcases prog_h i i0 i1 m V with ⟨r, a, b⟩ | ⟨a, b⟩
  · rcases ref_h V m (funAt l i).f0 with ⟨r', c, d⟩ | ⟨c, d⟩
    · obtain rfl := Least.unique (fine V) a c
      exact ⟨(r, 0), b, d, by rw [a.sol.len]; exact hf, .inl rfl⟩
    · exact absurd ⟨r, a.sol⟩ c
  · rcases ref_h V m (funAt l i).f0 with ⟨r', c, d⟩ | ⟨c, d⟩
    · exact absurd ⟨r', c.sol⟩ a
    · exact ⟨([], 7), b, d, Nat.zero_le _, .inr rfl⟩
end
end Go.Proofs.Ytkoopdoeehoigaa.SoundRefSoundTells
