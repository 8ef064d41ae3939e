/- The law SoundTells: the checks agree, and so do the heights. The condition: as many functions as a slice may have. -/
import Derived.Test.YtkoopdoeehoigaaSoundLawSoundTells
namespace Go.Proofs.Ytkoopdoeehoigaa.SoundEndSoundTells
open Go Go.RowKit Go.Proofs.YtkoopdoeehoigaaW.PrintWords Go.Proofs.YtkoopdoeehoigaaW.PrintLast Go.Proofs.YtkoopdoeehoigaaW.PrintMore Go.Proofs.Ytkoopdoeehoigaa.PSoundTells Go.Proofs.Ytkoopdoeehoigaa.SoundGraph Go.Proofs.Ytkoopdoeehoigaa.SoundOpsSoundTells Go.Proofs.Ytkoopdoeehoigaa.SoundRunSoundTells Go.Proofs.Ytkoopdoeehoigaa.SoundRefSoundTells Go.Proofs.Ytkoopdoeehoigaa.SoundLawSoundTells
set_option linter.unusedVariables false
def errFrom (res : Nat → List Int × Int) : Nat → Nat → Int
  | 0, _ => 0
  | n + 1, i => if (res i).2 = 0 then errFrom res n (i + 1) else (res i).2
def rowsFrom (res : Nat → List Int × Int) : Nat → Nat → List (List Int)
  | 0, _ => []
  | n + 1, i => (res i).1 :: rowsFrom res n (i + 1)
theorem rowsFrom_len (res : Nat → List Int × Int) : ∀ n i, (rowsFrom res n i).length = n
  | 0, _ => rfl
  | n + 1, i => by simp [rowsFrom, rowsFrom_len res n (i + 1)]
theorem rowsFrom_mem (res : Nat → List Int × Int) : ∀ n i, ∀ r ∈ rowsFrom res n i, ∃ j, i ≤ j ∧ j < i + n ∧ r = (res j).1
  | 0, _, r, h => by simp [rowsFrom] at h
  | n + 1, i, r, h => by
    rcases List.mem_cons.1 h with h | h
    · exact ⟨i, by omega, by omega, h⟩
    · obtain ⟨j, a, b, c⟩ := rowsFrom_mem res n (i + 1) r h
      exact ⟨j, by omega, by omega, c⟩
def big (f : Fnt) : Prop := f.f0 > 6 ∨ f.f1 > 64 ∨ (f.f2.length : Int) > 4000
section
variable {l : List Fnt} {m : Int}
theorem chk_l3 (hl : l.length ≤ 16) (res : Nat → List Int × Int) (h : ∀ i, i < l.length → Ev (fun q => sound_heights.f q l m (i : Int)) (res i)) : ∀ n i, i + n = l.length → Ev (fun k => sound_Check.l3 k (l.length : Int) (i : Int) l m) (errFrom res n i) := by
  intro n
  induction n with
  | zero => intro i hi; exact Ev.step (f := fun _ => some 0) (fun k => by rw [sound_Check.l3, if_neg (by omega)]) (Ev.now _)
  | succ n ih =>
    intro i hi
    have hw : wrap64 ((i : Int) + 1) = ((i + 1 : Nat) : Int) := by rw [wrap_in (by omega) (by omega)]; rfl
    refine Ev.step (f := fun k => (sound_heights.f k l m (i : Int)).bind fun bt => if bt.2 = 0 then sound_Check.l3 k (l.length : Int) (wrap64 ((i : Int) + 1)) l m else some bt.2) (fun k => by rw [sound_Check.l3, if_pos (by omega)]) (Ev.bind (h i (by omega)) ?_)
    rw [errFrom]
    by_cases c : (res i).2 = 0
    · simp only [if_pos c, hw]; exact ih (i + 1) (by omega)
    · simp only [if_neg c]; exact Ev.now _
theorem hts_l0 (hl : l.length ≤ 16) (res : Nat → List Int × Int) (h : ∀ i, i < l.length → Ev (fun q => sound_heights.f q l m (i : Int)) (res i)) : ∀ n i, i + n = l.length → ∀ out : List (List Int), out.length = i → Ev (fun k => sound_Heights.l0 k out (l.length : Int) (i : Int) l m) (out ++ rowsFrom res n i, 0) := by
  intro n
  induction n with
  | zero => intro i hi out ho; rw [rowsFrom, List.append_nil]; exact Ev.step (f := fun _ => some (out, 0)) (fun k => by rw [sound_Heights.l0, if_neg (by omega)]) (Ev.now _)
  | succ n ih =>
    intro i hi out ho
    have hw : wrap64 ((i : Int) + 1) = ((i + 1 : Nat) : Int) := by rw [wrap_in (by omega) (by omega)]; rfl
    refine Ev.step (f := fun k => (sound_heights.f k l m (i : Int)).bind fun bt => if out.length < 5864062014805 then sound_Heights.l0 k (out ++ [bt.1]) (l.length : Int) (wrap64 ((i : Int) + 1)) l m else none) (fun k => by rw [sound_Heights.l0, if_pos (by omega)]) (Ev.bind (h i (by omega)) ?_)
    simp only [if_pos (show out.length < 5864062014805 by omega), hw]
    have := ih (i + 1) (by omega) (out ++ [(res i).1]) (by simp [ho])
    rw [rowsFrom]
    simpa using this
theorem ref_l3 (hl : l.length ≤ 16) (res : Nat → List Int × Int) (h : ∀ i, i < l.length → Ev (fun q => tourref5_heightsOf.f q l m (funAt l (i : Int)).f0 (funAt l (i : Int)).f1 (funAt l (i : Int)).f2) (res i)) : ∀ n i, i + n = l.length → ∀ out : List (List Int), out.length = i → Ev (fun k => tourref5_ProgFault.l3 k out l (l.length : Int) (i : Int) l m) (if errFrom res n i = 0 then (out ++ rowsFrom res n i, 0) else ([], errFrom res n i)) := by
  intro n
  induction n with
  | zero => intro i hi out ho; rw [rowsFrom, List.append_nil, errFrom, if_pos rfl]; exact Ev.step (f := fun _ => some (out, 0)) (fun k => by rw [tourref5_ProgFault.l3, if_neg (by omega)]) (Ev.now _)
  | succ n ih =>
    intro i hi out ho
    have i1 : (i : Int) < (l.length : Int) := by omega
    have hw : wrap64 ((i : Int) + 1) = ((i + 1 : Nat) : Int) := by rw [wrap_in (by omega) (by omega)]; rfl
    refine Ev.step (f := fun k => (tourref5_heightsOf.f k l m (funAt l (i : Int)).f0 (funAt l (i : Int)).f1 (funAt l (i : Int)).f2).bind fun bt => if bt.2 = 0 then (if out.length < 5864062014805 then tourref5_ProgFault.l3 k (out ++ [bt.1]) l (l.length : Int) (wrap64 ((i : Int) + 1)) l m else none) else some ([], bt.2)) (fun k => by rw [tourref5_ProgFault.l3, if_pos i1, if_pos (by omega), if_pos i1]) (Ev.bind (h i (by omega)) ?_)
    rw [errFrom]
    by_cases c : (res i).2 = 0
    · simp only [if_pos c, if_pos (show out.length < 5864062014805 by omega), hw]
      have := ih (i + 1) (by omega) (out ++ [(res i).1]) (by simp [ho])
      rw [rowsFrom]
      simpa using this
    · simp only [if_neg c]; exact Ev.now _
theorem chk_l0 (hl : l.length ≤ 16) (R : Int) (hm : Ev (fun k => if m < 0 then (sound_Check.j1 k true l m) else (if m ≥ (l.length : Int) then (sound_Check.j1 k true l m) else (if 0 ≤ m then (if m < (l.length : Int) then (sound_Check.j1 k ((funAt l m).f0 != 0) l m) else (none)) else (none)))) R) : ∀ d i, i + d = l.length → (∀ f ∈ l.drop i, ¬ big f) → Ev (fun k => sound_Check.l0 k l (l.length : Int) (i : Int) l m) R := by
  intro d
  induction d with
  | zero => intro i hi _; exact Ev.step (fun k => by rw [sound_Check.l0, if_neg (by omega)]) hm
  | succ d ih =>
    intro i hi hb
    have i1 : (i : Int) < (l.length : Int) := by omega
    have hw : wrap64 ((i : Int) + 1) = ((i + 1 : Nat) : Int) := by rw [wrap_in (by omega) (by omega)]; rfl
    rw [drop_fun (by omega)] at hb
    have nb := hb _ List.mem_cons_self
    unfold big at nb
    refine Ev.step (fun k => ?_) (ih (i + 1) (by omega) fun f hf => hb f (List.mem_cons_of_mem _ hf))
    rw [sound_Check.l0, if_pos i1, if_pos (by omega), if_pos i1, if_neg (show ¬ (funAt l (i : Int)).f0 > 6 by omega), if_neg (show ¬ (funAt l (i : Int)).f1 > 64 by omega), if_neg (show ¬ ((funAt l (i : Int)).f2.length : Int) > 4000 by omega), hw]
theorem chk_big (hl : l.length ≤ 16) : ∀ d i, i + d = l.length → (∃ f ∈ l.drop i, big f) → Ev (fun k => sound_Check.l0 k l (l.length : Int) (i : Int) l m) 2 := by
  intro d
  induction d with
  | zero => intro i hi ⟨f, hf, _⟩; rw [List.drop_of_length_le (by omega)] at hf; simp at hf
  | succ d ih =>
    intro i hi ⟨f, hf, hb⟩
    have i1 : (i : Int) < (l.length : Int) := by omega
    have hw : wrap64 ((i : Int) + 1) = ((i + 1 : Nat) : Int) := by rw [wrap_in (by omega) (by omega)]; rfl
    rw [drop_fun (by omega)] at hf
    by_cases c : big (funAt l (i : Int))
    · refine Ev.step (f := fun _ => some 2) (fun k => ?_) (Ev.now _)
      rw [sound_Check.l0, if_pos i1, if_pos (by omega), if_pos i1]
      by_cases c1 : (funAt l (i : Int)).f0 > 6
      · rw [if_pos c1]
      · rw [if_neg c1]
        by_cases c2 : (funAt l (i : Int)).f1 > 64
        · rw [if_pos c2]
        · rw [if_neg c2, if_pos (show ((funAt l (i : Int)).f2.length : Int) > 4000 from (c.resolve_left c1).resolve_left c2)]
    · have nb := c
      unfold big at nb
      refine Ev.step (fun k => ?_) (ih (i + 1) (by omega) ⟨f, (List.mem_cons.1 hf).resolve_left fun e => c (e ▸ hb), hb⟩)
      rw [sound_Check.l0, if_pos i1, if_pos (by omega), if_pos i1, if_neg (show ¬ (funAt l (i : Int)).f0 > 6 by omega), if_neg (show ¬ (funAt l (i : Int)).f1 > 64 by omega), if_neg (show ¬ ((funAt l (i : Int)).f2.length : Int) > 4000 by omega), hw]
theorem ref_l0 (hl : l.length ≤ 9223372036854775807) (R : List (List Int) × Int) : ∀ d i (b : Bool), i + d = l.length → (b = true ∨ (∃ f ∈ l.drop i, big f) → R = ([], 2)) →
    (b = false → (∀ f ∈ l.drop i, ¬ big f) → Ev (fun k => if m < 0 then (tourref5_ProgFault.j1 k true l m) else (if m ≥ (l.length : Int) then (tourref5_ProgFault.j1 k true l m) else (if 0 ≤ m then (if m < (l.length : Int) then (tourref5_ProgFault.j1 k ((funAt l m).f0 != 0) l m) else (none)) else (none)))) R) → Ev (fun k => tourref5_ProgFault.l0 k b l (l.length : Int) (i : Int) l m) R := by
  intro d
  induction d with
  | zero =>
    intro i b hi h1 h2
    cases hb : b with
    | true =>
      rw [h1 (.inl hb)]
      exact Ev.step (f := fun _ => some ([], 2)) (fun k => by rw [tourref5_ProgFault.l0, if_neg (by omega), if_pos rfl]) (Ev.now _)
    | false => exact Ev.step (fun k => by rw [tourref5_ProgFault.l0, if_neg (by omega), if_neg (by simp)]) (h2 hb fun f hf => by rw [List.drop_of_length_le (by omega)] at hf; simp at hf)
  | succ d ih =>
    intro i b hi h1 h2
    have i1 : (i : Int) < (l.length : Int) := by omega
    have hw : wrap64 ((i : Int) + 1) = ((i + 1 : Nat) : Int) := by rw [wrap_in (by omega) (by omega)]; rfl
    rw [drop_fun (by omega)] at h1 h2
    cases hb : b with
    | true =>
      refine Ev.step (fun k => ?_) (ih (i + 1) true (by omega) (fun _ => h1 (.inl hb)) fun e => by simp at e)
      rw [tourref5_ProgFault.l0, if_pos i1, if_pos (by omega), if_pos i1, if_pos rfl, hw]
    | false =>
      by_cases c : big (funAt l (i : Int))
      · refine Ev.step (fun k => ?_) (ih (i + 1) true (by omega) (fun _ => h1 (.inr ⟨_, List.mem_cons_self, c⟩)) fun e => by simp at e)
        rw [tourref5_ProgFault.l0, if_pos i1, if_pos (by omega), if_pos i1, if_neg (by simp), hw]
        by_cases c1 : (funAt l (i : Int)).f0 > 6
        · rw [if_pos c1]
        · rw [if_neg c1]
          by_cases c2 : (funAt l (i : Int)).f1 > 64
          · rw [if_pos c2]
          · rw [if_neg c2, decide_eq_true (show ((funAt l (i : Int)).f2.length : Int) > 4000 from (c.resolve_left c1).resolve_left c2)]
      · have nb := c
        unfold big at nb
        refine Ev.step (fun k => ?_) (ih (i + 1) false (by omega) (fun h => h1 (.inr (h.elim (fun e => by simp at e) fun ⟨f, a, b⟩ => ⟨f, List.mem_cons_of_mem _ a, b⟩))) fun _ h => h2 hb fun f hf => ?_)
        · rw [tourref5_ProgFault.l0, if_pos i1, if_pos (by omega), if_pos i1, if_neg (by simp), if_neg (show ¬ (funAt l (i : Int)).f0 > 6 by omega), if_neg (show ¬ (funAt l (i : Int)).f1 > 64 by omega), decide_eq_false (show ¬ ((funAt l (i : Int)).f2.length : Int) > 4000 by omega), hw]
        · rcases List.mem_cons.1 hf with rfl | hf
          · exact c
          · exact h f hf
/-- The checks agree, and so do the heights. -/
theorem agree (hl : l.length ≤ 9223372036854775807) : ∃ (e : Int) (rows : List (List Int)), Ev (fun k => sound_Check.f k l m) e ∧ Ev (fun k => sound_Heights.f k l m) (rows, e) ∧ Ev (fun k => tourref5_ProgFault.f k l m) (rows, e) ∧ rows.length ≤ 16 ∧ ∀ r ∈ rows, r.length ≤ 4000 := by
  have hts : ∀ e, e ≠ 0 → Ev (fun k => sound_Check.f k l m) e → Ev (fun k => sound_Heights.f k l m) ([], e) := fun e h0 h => by
    unfold sound_Heights.f
    refine Ev.bind h ?_
    simp only [if_neg h0]
    exact Ev.now _
  have wrong : ∀ e, e ≠ 0 → Ev (fun k => sound_Check.f k l m) e → Ev (fun k => tourref5_ProgFault.f k l m) ([], e) → ∃ (e : Int) (rows : List (List Int)), Ev (fun k => sound_Check.f k l m) e ∧ Ev (fun k => sound_Heights.f k l m) (rows, e) ∧ Ev (fun k => tourref5_ProgFault.f k l m) (rows, e) ∧ rows.length ≤ 16 ∧ ∀ r ∈ rows, r.length ≤ 4000 := fun e h0 h1 h2 =>
    ⟨e, [], h1, hts e h0 h1, h2, Nat.zero_le _, fun r h => by simp at h⟩
  by_cases c16 : (l.length : Int) > 16
  · refine wrong 2 (by omega) (Ev.congr (fun k => by unfold sound_Check.f; rw [if_pos c16]) (Ev.now _)) ?_
    exact Ev.congr (fun k => by unfold tourref5_ProgFault.f; rw [decide_eq_true c16]; rfl) (ref_l0 (m := m) hl ([], 2) l.length 0 true (by omega) (fun _ => rfl) fun e => by simp at e)
  have hl16 : l.length ≤ 16 := by omega
  have chk : ∀ R, Ev (fun k => sound_Check.l0 k l (l.length : Int) ((0 : Nat) : Int) l m) R → Ev (fun k => sound_Check.f k l m) R := fun R h => Ev.congr (fun k => by unfold sound_Check.f; rw [if_neg c16]; rfl) h
  have ref : ∀ R, Ev (fun k => tourref5_ProgFault.l0 k false l (l.length : Int) ((0 : Nat) : Int) l m) R → Ev (fun k => tourref5_ProgFault.f k l m) R := fun R h => Ev.congr (fun k => by unfold tourref5_ProgFault.f; rw [decide_eq_false c16]; rfl) h
  by_cases cb : ∃ f ∈ l, big f
  · refine wrong 2 (by omega) (chk _ (chk_big hl16 l.length 0 (by omega) (by rw [List.drop_zero]; exact cb))) (ref _ (ref_l0 hl _ l.length 0 false (by omega) (fun _ => rfl) fun _ h => ?_))
    rw [List.drop_zero] at h
    obtain ⟨f, a, b⟩ := cb
    exact absurd b (h f a)
  have nb : ∀ f ∈ l, ¬ big f := fun f hf hb => cb ⟨f, hf, hb⟩
  have chk2 : ∀ R, Ev (fun k => if m < 0 then (sound_Check.j1 k true l m) else (if m ≥ (l.length : Int) then (sound_Check.j1 k true l m) else (if 0 ≤ m then (if m < (l.length : Int) then (sound_Check.j1 k ((funAt l m).f0 != 0) l m) else (none)) else (none)))) R → Ev (fun k => sound_Check.f k l m) R := fun R h => chk R (chk_l0 hl16 R h l.length 0 (by omega) (by rw [List.drop_zero]; exact nb))
  have ref2 : ∀ R, Ev (fun k => if m < 0 then (tourref5_ProgFault.j1 k true l m) else (if m ≥ (l.length : Int) then (tourref5_ProgFault.j1 k true l m) else (if 0 ≤ m then (if m < (l.length : Int) then (tourref5_ProgFault.j1 k ((funAt l m).f0 != 0) l m) else (none)) else (none)))) R → Ev (fun k => tourref5_ProgFault.f k l m) R := fun R h => ref R (ref_l0 hl R l.length 0 false (by omega) (fun h => by
    rw [List.drop_zero] at h
    rcases h with h | ⟨f, a, b⟩
    · simp at h
    · exact absurd b (nb f a)) fun _ _ => h)
  have j16 : ∀ k, sound_Check.j1 (k + 1) true l m = some 16 := fun k => by rw [sound_Check.j1, if_pos rfl]
  have r16 : ∀ k, tourref5_ProgFault.j1 (k + 1) true l m = some ([], 16) := fun k => by rw [tourref5_ProgFault.j1, if_pos rfl]
  by_cases c1 : m < 0
  · exact wrong 16 (by omega) (chk2 _ (Ev.congr (fun k => if_pos c1) (Ev.step j16 (Ev.now _)))) (ref2 _ (Ev.congr (fun k => if_pos c1) (Ev.step r16 (Ev.now _))))
  by_cases c2 : m ≥ (l.length : Int)
  · exact wrong 16 (by omega) (chk2 _ (Ev.congr (fun k => by rw [if_neg c1, if_pos c2]) (Ev.step j16 (Ev.now _)))) (ref2 _ (Ev.congr (fun k => by rw [if_neg c1, if_pos c2]) (Ev.step r16 (Ev.now _))))
  by_cases c3 : (funAt l m).f0 = 0
  case neg =>
    have c3b : ((funAt l m).f0 != 0) = true := by simpa using c3
    exact wrong 16 (by omega) (chk2 _ (Ev.congr (fun k => by rw [if_neg c1, if_neg c2, if_pos (by omega), if_pos (by omega), c3b]) (Ev.step j16 (Ev.now _)))) (ref2 _ (Ev.congr (fun k => by rw [if_neg c1, if_neg c2, if_pos (by omega), if_pos (by omega), c3b]) (Ev.step r16 (Ev.now _))))
  have c3b : ((funAt l m).f0 != 0) = false := by simpa using c3
  have ho : ∀ f ∈ l, f.f2.length ≤ 4000 := fun f hf => by have := nb f hf; unfold big at this; omega
  have chk3 : ∀ R, Ev (fun k => sound_Check.l1 k l (l.length : Int) ((0 : Nat) : Int) l m) R → Ev (fun k => sound_Check.f k l m) R := fun R h => by
    refine chk2 R (Ev.congr (fun k => by rw [if_neg c1, if_neg c2, if_pos (by omega), if_pos (by omega), c3b]) (Ev.step (fun k => ?_) h))
    rw [sound_Check.j1, if_neg (by simp)]; rfl
  have ref3 : ∀ R, Ev (fun k => tourref5_ProgFault.l1 k l (l.length : Int) ((0 : Nat) : Int) l m) R → Ev (fun k => tourref5_ProgFault.f k l m) R := fun R h => by
    refine ref2 R (Ev.congr (fun k => by rw [if_neg c1, if_neg c2, if_pos (by omega), if_pos (by omega), c3b]) (Ev.step (fun k => ?_) h))
    rw [tourref5_ProgFault.j1, if_neg (by simp)]; rfl
  by_cases c4 : funsErr l.length l = 0
  case neg =>
    refine wrong _ c4 (chk3 _ (chk_l1 hl16 ho _ l.length 0 (by omega) (fun h => ?_) fun _ => by rw [List.drop_zero])) (ref3 _ (ref_l1 hl16 ho _ l.length 0 (by omega) (fun h => ?_) fun _ => by rw [List.drop_zero]))
    · rw [List.drop_zero] at h; exact absurd h c4
    · rw [List.drop_zero] at h; exact absurd h c4
  have V : ∀ i : Nat, i < l.length → Valid l (funAt l (i : Int)).f1 (funAt l (i : Int)).f2 := fun i hi => by
    have hm := fun_mem (l := l) (i := (i : Int)) (by omega) (by omega)
    refine ⟨ho _ hm, fun g hg => ?_, opsErr_zero (funsErr_zero c4 _ hm).2.2⟩
    have a := nb g hg
    have b := funsErr_zero c4 g hg
    unfold big at a
    omega
  have ex : ∀ i : Nat, ∃ r : List Int × Int, i < l.length → Ev (fun q => sound_heights.f q l m (i : Int)) r ∧ Ev (fun q => tourref5_heightsOf.f q l m (funAt l (i : Int)).f0 (funAt l (i : Int)).f1 (funAt l (i : Int)).f2) r ∧ r.1.length ≤ 4000 := fun i => by
    by_cases h : i < l.length
    · obtain ⟨r, a, b, c, _⟩ := both_h (i : Int) (by omega) (by omega) m (V i h)
      exact ⟨r, fun _ => ⟨a, b, c⟩⟩
    · exact ⟨([], 0), fun h' => absurd h' h⟩
  obtain ⟨res, hres⟩ := Classical.axiomOfChoice ex
  have C := chk3 _ (chk_l1 hl16 ho _ l.length 0 (by omega) (fun _ => chk_l3 hl16 res (fun i hi => (hres i hi).1) l.length 0 (by omega)) fun h => by rw [List.drop_zero] at h; exact absurd c4 h)
  have D := ref3 _ (ref_l1 hl16 ho _ l.length 0 (by omega) (fun _ => ref_l3 hl16 res (fun i hi => (hres i hi).2.1) l.length 0 (by omega) [] rfl) fun h => by rw [List.drop_zero] at h; exact absurd c4 h)
  by_cases c5 : errFrom res l.length 0 = 0
  · rw [if_pos c5, List.nil_append] at D
    rw [c5] at C
    refine ⟨0, rowsFrom res l.length 0, C, ?_, D, by rw [rowsFrom_len]; exact hl16, fun r hr => ?_⟩
    · unfold sound_Heights.f
      refine Ev.bind C ?_
      simp only [if_true]
      have := hts_l0 hl16 res (fun i hi => (hres i hi).1) l.length 0 (by omega) [] rfl
      rw [List.nil_append] at this
      exact this
    · obtain ⟨j, _, b, rfl⟩ := rowsFrom_mem res _ _ r hr
      exact (hres j (by omega)).2.2
  · rw [if_neg c5] at D
    exact wrong _ c5 C D
end
theorem equal_l (f : List Int) (hf : f.length ≤ 4000) : ∀ n i : Nat, i + n = f.length → Ev (fun k => slices_Equal_int_int.l0 k f f (f.length : Int) (i : Int)) true := by
  intro n
  induction n with
  | zero => intro i hi; exact Ev.step (f := fun _ => some true) (fun k => by rw [slices_Equal_int_int.l0, if_neg (by omega)]) (Ev.now _)
  | succ n ih =>
    intro i hi
    have i1 : (i : Int) < (f.length : Int) := by omega
    have i0 : (0 : Int) ≤ (i : Int) := by omega
    have hw : wrap64 ((i : Int) + 1) = ((i + 1 : Nat) : Int) := by rw [wrap_in (by omega) (by omega)]; rfl
    exact Ev.step (fun k => by rw [slices_Equal_int_int.l0, if_pos i1, if_pos i0, if_pos i1, if_pos i1, if_pos rfl, hw]) (ih (i + 1) (by omega))
theorem equal_ev (f : List Int) (hf : f.length ≤ 4000) : Ev (fun k => slices_Equal_int_int.f k f f) true := by
  refine Ev.congr (fun k => ?_) (equal_l f hf f.length 0 (by omega))
  unfold slices_Equal_int_int.f
  rw [if_pos rfl]; rfl
theorem rows_l (f : List (List Int)) (hf : f.length ≤ 16) (hr : ∀ r ∈ f, r.length ≤ 4000) : ∀ n i : Nat, i + n = f.length → Ev (fun k => slices_EqualFunc_int_int_int_int.l0 k f f (f.length : Int) (i : Int)) true := by
  intro n
  induction n with
  | zero => intro i hi; exact Ev.step (f := fun _ => some true) (fun k => by rw [slices_EqualFunc_int_int_int_int.l0, if_neg (by omega)]) (Ev.now _)
  | succ n ih =>
    intro i hi
    have i1 : (i : Int) < (f.length : Int) := by omega
    have i0 : (0 : Int) ≤ (i : Int) := by omega
    have hw : wrap64 ((i : Int) + 1) = ((i + 1 : Nat) : Int) := by rw [wrap_in (by omega) (by omega)]; rfl
    have hm : rd_L4 f (i : Int) ∈ f := by
      show List.getD _ _ _ ∈ f
      rw [Int.toNat_natCast, List.getD_eq_getElem?_getD, List.getElem?_eq_getElem (by omega)]
      exact List.getElem_mem _
    refine Ev.step (fun k => by rw [slices_EqualFunc_int_int_int_int.l0, if_pos i1, if_pos i0, if_pos i1, if_pos i1]) (Ev.bind (equal_ev _ (hr _ hm)) ?_)
    simp only [if_true, hw]
    exact ih (i + 1) (by omega)
theorem rows_ev (f : List (List Int)) (hf : f.length ≤ 16) (hr : ∀ r ∈ f, r.length ≤ 4000) : Ev (fun k => slices_EqualFunc_int_int_int_int.f k f f) true := by
  refine Ev.congr (fun k => ?_) (rows_l f hf hr f.length 0 (by omega))
  unfold slices_EqualFunc_int_int_int_int.f
  rw [if_pos rfl]; rfl
theorem good : Ev (fun k => sound_Heights.f k (([(⟨0, 0, (([⟨1, 0⟩, ⟨18, 0⟩] : List Opn))⟩ : Fnt)] : List Fnt)) 0) ([[0, 1]], 0) := Ev.of (fun k => sound_Heights.mono _ _ k) (k := 40) (by decide +kernel)
theorem none16 : Ev (fun k => sound_Check.f k ([] : List Fnt) 0) 16 := Ev.of (fun k => sound_Check.mono _ _ k) (k := 20) (by decide +kernel)
theorem tells (l : List Fnt) (m : Int) (hl : l.length ≤ 9223372036854775807) : Ev (fun k => tourlaw5_SoundTells.f k l m) true := by
  obtain ⟨e, rows, h1, h2, h3, h4, h5⟩ := agree (m := m) hl
  unfold tourlaw5_SoundTells.f
  refine Ev.bind good ?_
  simp only [if_true, List.length_singleton, Int.natCast_one]
  refine Ev.bind none16 ?_
  simp only [bne_self_eq_false]
  refine Ev.step (fun k => by rw [tourlaw5_SoundTells.j0, if_neg (show ¬ (false = true) by simp)]) (Ev.bind h3 (Ev.bind h2 ?_))
  simp only [if_true]
  refine Ev.bind h1 ?_
  simp only [if_true]
  exact Ev.bind (rows_ev rows h4 h5) (Ev.now _)
end Go.Proofs.Ytkoopdoeehoigaa.SoundEndSoundTells
