/- What the printed law SoundTells computes is true, whatever the functions and the number of main. Under the conditions that stand at each. -/
import Derived.Test.YtkoopdoeehoigaaSoundRefSoundTells
namespace Go.Proofs.Ytkoopdoeehoigaa.SoundLawSoundTells
open Go Go.RowKit Go.Proofs.YtkoopdoeehoigaaW.PrintWords Go.Proofs.YtkoopdoeehoigaaW.PrintLast Go.Proofs.YtkoopdoeehoigaaW.PrintMore Go.Proofs.Ytkoopdoeehoigaa.PSoundTells Go.Proofs.Ytkoopdoeehoigaa.SoundGraph Go.Proofs.Ytkoopdoeehoigaa.SoundOpsSoundTells Go.Proofs.Ytkoopdoeehoigaa.SoundRunSoundTells Go.Proofs.Ytkoopdoeehoigaa.SoundRefSoundTells
set_option linter.unusedVariables false
def opsErr (nf nv no : Int) : List Opn → Int
  | [] => 0
  | o :: r => if errP nf nv no o.f0 o.f1 = 0 then opsErr nf nv no r else errP nf nv no o.f0 o.f1
def funsErr (nf : Int) : List Fnt → Int
  | [] => 0
  | f :: r => if f.f0 < 0 ∨ f.f1 < f.f0 then 3 else if opsErr nf f.f1 f.f2.length f.f2 = 0 then funsErr nf r else opsErr nf f.f1 f.f2.length f.f2
theorem opsErr_zero {nf nv no : Int} : ∀ {ops : List Opn}, opsErr nf nv no ops = 0 → ∀ o ∈ ops, errP nf nv no o.f0 o.f1 = 0
  | [], _, o, h => by simp at h
  | x :: r, e, o, h => by
    rw [opsErr] at e
    by_cases c : errP nf nv no x.f0 x.f1 = 0
    · rw [if_pos c] at e
      rcases List.mem_cons.1 h with rfl | h
      · exact c
      · exact opsErr_zero e o h
    · rw [if_neg c] at e; exact absurd e c
theorem funsErr_zero {nf : Int} : ∀ {l : List Fnt}, funsErr nf l = 0 → ∀ f ∈ l, 0 ≤ f.f0 ∧ f.f0 ≤ f.f1 ∧ opsErr nf f.f1 f.f2.length f.f2 = 0
  | [], _, f, h => by simp at h
  | x :: r, e, f, h => by
    rw [funsErr] at e
    by_cases c1 : x.f0 < 0 ∨ x.f1 < x.f0
    · rw [if_pos c1] at e; omega
    · rw [if_neg c1] at e
      by_cases c : opsErr nf x.f1 x.f2.length x.f2 = 0
      · rw [if_pos c] at e
        rcases List.mem_cons.1 h with rfl | h
        · exact ⟨by omega, by omega, c⟩
        · exact funsErr_zero e f h
      · rw [if_neg c] at e; exact absurd e c
theorem drop_fun {l : List Fnt} {i : Nat} (h : i < l.length) : l.drop i = funAt l (i : Int) :: l.drop (i + 1) := by
  rw [List.drop_eq_getElem_cons h]
  congr 1
  show _ = List.getD _ _ _
  rw [Int.toNat_natCast, List.getD_eq_getElem?_getD, List.getElem?_eq_getElem h]; rfl
theorem drop_op {l : List Opn} {i : Nat} (h : i < l.length) : l.drop i = opnAt l (i : Int) :: l.drop (i + 1) := by
  rw [List.drop_eq_getElem_cons h]
  congr 1
  show _ = List.getD _ _ _
  rw [Int.toNat_natCast, List.getD_eq_getElem?_getD, List.getElem?_eq_getElem h]; rfl
section
variable {l : List Fnt} {m : Int}
/-! The program's check. -/
theorem chk_l2 (hl : l.length ≤ 16) (n i : Int) (p0 p1 : Int) (ops : List Opn) (ho : ops.length ≤ 4000) (R : Int) : ∀ d idx : Nat, idx + d = ops.length →
    (opsErr l.length p1 ops.length (ops.drop idx) = 0 → Ev (fun k => sound_Check.l1 k l n (wrap64 (i + 1)) l m) R) → (opsErr l.length p1 ops.length (ops.drop idx) ≠ 0 → R = opsErr l.length p1 ops.length (ops.drop idx)) → Ev (fun k => sound_Check.l2 k l n i ops (ops.length : Int) (idx : Int) l m p0 p1 ops) R := by
  intro d
  induction d with
  | zero =>
    intro idx hd h1 h2
    refine Ev.step (fun k => by rw [sound_Check.l2, if_neg (by omega)]) (h1 ?_)
    rw [List.drop_of_length_le (by omega)]; rfl
  | succ d ih =>
    intro idx hd h1 h2
    have i1 : (idx : Int) < (ops.length : Int) := by omega
    have hw : wrap64 ((idx : Int) + 1) = ((idx + 1 : Nat) : Int) := by rw [wrap_in (by omega) (by omega)]; rfl
    rw [drop_op (by omega), opsErr] at h1 h2
    refine Ev.step (f := fun k => (sound_op.f k l m p0 p1 ops (opnAt ops (idx : Int)).f0 (opnAt ops (idx : Int)).f1).bind fun t => if t = 0 then sound_Check.l2 k l n i ops (ops.length : Int) (wrap64 ((idx : Int) + 1)) l m p0 p1 ops else some t) (fun k => by rw [sound_Check.l2, if_pos i1, if_pos (by omega), if_pos i1]) (Ev.bind (op_ev l m p0 p1 ops _ _) ?_)
    by_cases c : errP l.length p1 ops.length (opnAt ops (idx : Int)).f0 (opnAt ops (idx : Int)).f1 = 0
    · rw [if_pos c] at h1 h2
      simp only [if_pos c, hw]
      exact ih (idx + 1) (by omega) h1 h2
    · rw [if_neg c] at h1 h2
      simp only [if_neg c]
      rw [h2 c]
      exact Ev.now _
theorem chk_l1 (hl : l.length ≤ 16) (hb : ∀ f ∈ l, f.f2.length ≤ 4000) (R : Int) : ∀ d i : Nat, i + d = l.length →
    (funsErr l.length (l.drop i) = 0 → Ev (fun k => sound_Check.l3 k (l.length : Int) 0 l m) R) → (funsErr l.length (l.drop i) ≠ 0 → R = funsErr l.length (l.drop i)) → Ev (fun k => sound_Check.l1 k l (l.length : Int) (i : Int) l m) R := by
  intro d
  induction d with
  | zero =>
    intro i hd h1 h2
    refine Ev.step (fun k => by rw [sound_Check.l1, if_neg (by omega)]) (h1 ?_)
    rw [List.drop_of_length_le (by omega)]; rfl
  | succ d ih =>
    intro i hd h1 h2
    have i1 : (i : Int) < (l.length : Int) := by omega
    have hw : wrap64 ((i : Int) + 1) = ((i + 1 : Nat) : Int) := by rw [wrap_in (by omega) (by omega)]; rfl
    have hf := hb _ (fun_mem (l := l) (i := (i : Int)) (by omega) i1)
    rw [drop_fun (by omega), funsErr] at h1 h2
    have at3 : ∀ b : Bool, b = decide ((funAt l (i : Int)).f0 < 0 ∨ (funAt l (i : Int)).f1 < (funAt l (i : Int)).f0) → Ev (fun k => sound_Check.j3 k l (l.length : Int) (i : Int) b l m (funAt l (i : Int)).f0 (funAt l (i : Int)).f1 (funAt l (i : Int)).f2) R → Ev (fun k => sound_Check.l1 k l (l.length : Int) (i : Int) l m) R := fun b hb' h => by
      refine Ev.step (fun k => ?_) h
      rw [sound_Check.l1, if_pos i1, if_pos (by omega), if_pos i1, hb']
      by_cases c : (funAt l (i : Int)).f0 < 0
      · rw [if_pos c, decide_eq_true (.inl c)]
      · rw [if_neg c]
        congr 1
        exact decide_eq_decide.2 ⟨fun h => .inr h, fun h => h.resolve_left c⟩
    by_cases c1 : (funAt l (i : Int)).f0 < 0 ∨ (funAt l (i : Int)).f1 < (funAt l (i : Int)).f0
    · rw [if_pos c1] at h2
      have := h2 (by omega)
      subst this
      exact at3 true (decide_eq_true c1).symm (Ev.step (f := fun _ => some 3) (fun k => by rw [sound_Check.j3, if_pos rfl]) (Ev.now _))
    · rw [if_neg c1] at h1 h2
      refine at3 false (decide_eq_false c1).symm (Ev.step (f := fun k => sound_Check.l2 k l (l.length : Int) (i : Int) (funAt l (i : Int)).f2 ((funAt l (i : Int)).f2.length : Int) ((0 : Nat) : Int) l m (funAt l (i : Int)).f0 (funAt l (i : Int)).f1 (funAt l (i : Int)).f2) (fun k => by rw [sound_Check.j3, if_neg (by simp)]; rfl) (chk_l2 hl _ _ _ _ _ hf R _ 0 (Nat.zero_add _) (fun h => ?_) fun h => ?_))
      · rw [List.drop_zero] at h
        rw [if_pos h] at h1 h2
        rw [hw]
        exact ih (i + 1) (by omega) h1 h2
      · rw [List.drop_zero] at h ⊢
        rw [if_neg h] at h2
        exact h2 h
/-! The reference's check. -/
theorem ref_l2 (hl : l.length ≤ 16) (n i : Int) (p0 p1 : Int) (ops : List Opn) (ho : ops.length ≤ 4000) (R : List (List Int) × Int) : ∀ d idx : Nat, idx + d = ops.length →
    (opsErr l.length p1 ops.length (ops.drop idx) = 0 → Ev (fun k => tourref5_ProgFault.l1 k l n (wrap64 (i + 1)) l m) R) → (opsErr l.length p1 ops.length (ops.drop idx) ≠ 0 → R = ([], opsErr l.length p1 ops.length (ops.drop idx))) → Ev (fun k => tourref5_ProgFault.l2 k l n i ops (ops.length : Int) (idx : Int) l m p0 p1 ops) R := by
  intro d
  induction d with
  | zero =>
    intro idx hd h1 h2
    refine Ev.step (fun k => by rw [tourref5_ProgFault.l2, if_neg (by omega)]) (h1 ?_)
    rw [List.drop_of_length_le (by omega)]; rfl
  | succ d ih =>
    intro idx hd h1 h2
    have i1 : (idx : Int) < (ops.length : Int) := by omega
    have hw : wrap64 ((idx : Int) + 1) = ((idx + 1 : Nat) : Int) := by rw [wrap_in (by omega) (by omega)]; rfl
    rw [drop_op (by omega), opsErr] at h1 h2
    obtain ⟨p, q, lim, ok, e, hok, hlim, _, h20⟩ := opOf_says l m p0 p1 ops (opnAt ops (idx : Int)).f0 (opnAt ops (idx : Int)).f1
    generalize hd0 : (opnAt ops (idx : Int)).f0 = dd at *
    generalize ha0 : (opnAt ops (idx : Int)).f1 = aa at *
    have go : ∀ F, (∀ k, F k = (if ok = true then (if dd = 1 then (if dd = 20 then (if p > 6 then (some (([] : List (List Int)), 1)) else (tourref5_ProgFault.l2 k l n i ops (ops.length : Int) (wrap64 ((idx : Int) + 1)) l m p0 p1 ops)) else (tourref5_ProgFault.l2 k l n i ops (ops.length : Int) (wrap64 ((idx : Int) + 1)) l m p0 p1 ops)) else (if aa < 0 then (some (([] : List (List Int)), 1)) else (if aa ≥ lim then (some (([] : List (List Int)), 1)) else (if dd = 20 then (if p > 6 then (some (([] : List (List Int)), 1)) else (tourref5_ProgFault.l2 k l n i ops (ops.length : Int) (wrap64 ((idx : Int) + 1)) l m p0 p1 ops)) else (tourref5_ProgFault.l2 k l n i ops (ops.length : Int) (wrap64 ((idx : Int) + 1)) l m p0 p1 ops))))) else (some (([] : List (List Int)), 3)))) → Ev F R → Ev (fun k => tourref5_ProgFault.l2 k l n i ops (ops.length : Int) (idx : Int) l m p0 p1 ops) R := fun F hF h => by
      refine Ev.step (fun k => ?_) (Ev.congr (fun k => (hF k).symm) h)
      rw [tourref5_ProgFault.l2, if_pos i1, if_pos (by omega), if_pos i1]
      show (tourref5_opOf.f l m p0 p1 ops (opnAt ops (idx : Int)).f0 (opnAt ops (idx : Int)).f1).bind _ = _
      rw [hd0, ha0, e]
      simp only [Option.bind_some]
    have pass : errP l.length p1 ops.length dd aa = 0 → (∀ F, (∀ k, F k = tourref5_ProgFault.l2 k l n i ops (ops.length : Int) (wrap64 ((idx : Int) + 1)) l m p0 p1 ops) → Ev F R) := fun c F hF => by
      rw [if_pos c] at h1 h2
      refine Ev.congr hF ?_
      simp only [hw]
      exact ih (idx + 1) (by omega) h1 h2
    have stop : ∀ x, errP l.length p1 ops.length dd aa = x → x ≠ 0 → Ev (fun _ => some (([] : List (List Int)), x)) R := fun x hx h0 => by
      rw [if_neg (by rw [hx]; exact h0)] at h2
      rw [h2 (by rw [hx]; exact h0), hx]
      exact Ev.now _
    by_cases c1 : dd = 1
    · have e0 : errP l.length p1 ops.length dd aa = 0 := by unfold errP; rw [if_pos c1]
      have k1 : ok = true := by rw [hok]; exact decide_eq_true (by omega)
      refine go _ (fun k => by rw [if_pos k1, if_pos c1, if_neg (by omega)]) (pass e0 _ fun k => rfl)
    · by_cases c2 : dd < 1 ∨ dd > 20
      · have k1 : ¬ ok = true := by rw [hok]; simp only [decide_eq_true_eq]; omega
        refine go _ (fun k => by rw [if_neg k1]) (stop 3 ?_ (by omega))
        unfold errP; rw [if_neg c1, if_pos c2]
      · have k1 : ok = true := by rw [hok]; exact decide_eq_true (by omega)
        have hlm := hlim (by omega) (by omega) c1
        by_cases c3 : aa < 0
        · refine go _ (fun k => by rw [if_pos k1, if_neg c1, if_pos c3]) (stop 1 ?_ (by omega))
          unfold errP; rw [if_neg c1, if_neg c2, if_pos (.inl c3)]
        · by_cases c4 : aa ≥ lim
          · refine go _ (fun k => by rw [if_pos k1, if_neg c1, if_neg c3, if_pos c4]) (stop 1 ?_ (by omega))
            unfold errP; rw [if_neg c1, if_neg c2, if_pos (.inr (by rw [← hlm]; exact c4))]
          · have e3 : errP l.length p1 ops.length dd aa = if dd = 20 ∧ Int.tmod aa 8 > 6 then 1 else 0 := by
              unfold errP; rw [if_neg c1, if_neg c2, if_neg (by rw [← hlm]; omega)]
            by_cases c5 : dd = 20
            · have hl20 : lim = 128 := by rw [hlm, c5]; rfl
              have hp := h20 c5 (by omega) (by omega)
              by_cases c6 : p > 6
              · refine go _ (fun k => by rw [if_pos k1, if_neg c1, if_neg c3, if_neg c4, if_pos c5, if_pos c6]) (stop 1 ?_ (by omega))
                rw [e3, if_pos ⟨c5, by rw [← hp]; exact c6⟩]
              · refine go _ (fun k => by rw [if_pos k1, if_neg c1, if_neg c3, if_neg c4, if_pos c5, if_neg c6]) (pass ?_ _ fun k => rfl)
                rw [e3, if_neg (fun h => c6 (by rw [hp]; exact h.2))]
            · refine go _ (fun k => by rw [if_pos k1, if_neg c1, if_neg c3, if_neg c4, if_neg c5]) (pass ?_ _ fun k => rfl)
              rw [e3, if_neg (fun h => c5 h.1)]
theorem ref_l1 (hl : l.length ≤ 16) (hb : ∀ f ∈ l, f.f2.length ≤ 4000) (R : List (List Int) × Int) : ∀ d i : Nat, i + d = l.length →
    (funsErr l.length (l.drop i) = 0 → Ev (fun k => tourref5_ProgFault.l3 k ([] : List (List Int)) l (l.length : Int) 0 l m) R) → (funsErr l.length (l.drop i) ≠ 0 → R = ([], funsErr l.length (l.drop i))) → Ev (fun k => tourref5_ProgFault.l1 k l (l.length : Int) (i : Int) l m) R := by
  intro d
  induction d with
  | zero =>
    intro i hd h1 h2
    refine Ev.step (fun k => by rw [tourref5_ProgFault.l1, if_neg (by omega)]) (h1 ?_)
    rw [List.drop_of_length_le (by omega)]; rfl
  | succ d ih =>
    intro i hd h1 h2
    have i1 : (i : Int) < (l.length : Int) := by omega
    have hw : wrap64 ((i : Int) + 1) = ((i + 1 : Nat) : Int) := by rw [wrap_in (by omega) (by omega)]; rfl
    have hf := hb _ (fun_mem (l := l) (i := (i : Int)) (by omega) i1)
    rw [drop_fun (by omega), funsErr] at h1 h2
    have at3 : ∀ b : Bool, b = decide ((funAt l (i : Int)).f0 < 0 ∨ (funAt l (i : Int)).f1 < (funAt l (i : Int)).f0) → Ev (fun k => tourref5_ProgFault.j3 k l (l.length : Int) (i : Int) b l m (funAt l (i : Int)).f0 (funAt l (i : Int)).f1 (funAt l (i : Int)).f2) R → Ev (fun k => tourref5_ProgFault.l1 k l (l.length : Int) (i : Int) l m) R := fun b hb' h => by
      refine Ev.step (fun k => ?_) h
      rw [tourref5_ProgFault.l1, if_pos i1, if_pos (by omega), if_pos i1, hb']
      by_cases c : (funAt l (i : Int)).f0 < 0
      · rw [if_pos c, decide_eq_true (.inl c)]
      · rw [if_neg c]
        congr 1
        exact decide_eq_decide.2 ⟨fun h => .inr h, fun h => h.resolve_left c⟩
    by_cases c1 : (funAt l (i : Int)).f0 < 0 ∨ (funAt l (i : Int)).f1 < (funAt l (i : Int)).f0
    · rw [if_pos c1] at h2
      have := h2 (by omega)
      subst this
      exact at3 true (decide_eq_true c1).symm (Ev.step (f := fun _ => some ([], 3)) (fun k => by rw [tourref5_ProgFault.j3, if_pos rfl]) (Ev.now _))
    · rw [if_neg c1] at h1 h2
      refine at3 false (decide_eq_false c1).symm (Ev.step (f := fun k => tourref5_ProgFault.l2 k l (l.length : Int) (i : Int) (funAt l (i : Int)).f2 ((funAt l (i : Int)).f2.length : Int) ((0 : Nat) : Int) l m (funAt l (i : Int)).f0 (funAt l (i : Int)).f1 (funAt l (i : Int)).f2) (fun k => by rw [tourref5_ProgFault.j3, if_neg (by simp)]; rfl) (ref_l2 hl _ _ _ _ _ hf R _ 0 (Nat.zero_add _) (fun h => ?_) fun h => ?_))
      · rw [List.drop_zero] at h
        rw [if_pos h] at h1 h2
        rw [hw]
        exact ih (i + 1) (by omega) h1 h2
      · rw [List.drop_zero] at h ⊢
        rw [if_neg h] at h2
        exact h2 h
end
end Go.Proofs.Ytkoopdoeehoigaa.SoundLawSoundTells
