/- Operations: what each takes, and what is wrong with it: the program's word and the reference's. Under the conditions that stand at each. -/
import Derived.Test.YtkoopdoeehoigaaPSoundTellsx
import Derived.Test.YtkoopdoeehoigaaSoundGraph
namespace Go.Proofs.Ytkoopdoeehoigaa.SoundOpsSoundTells
open Go Go.RowKit Go.Proofs.YtkoopdoeehoigaaW.PrintWords Go.Proofs.YtkoopdoeehoigaaW.PrintLast Go.Proofs.YtkoopdoeehoigaaW.PrintMore Go.Proofs.Ytkoopdoeehoigaa.PSoundTells Go.Proofs.Ytkoopdoeehoigaa.SoundGraph
set_option linter.unusedVariables false
abbrev Fnt := S29
abbrev Opn := S26
theorem wrap_in {x : Int} (h0 : -9223372036854775808 ≤ x) (h1 : x ≤ 9223372036854775807) : wrap64 x = x := by
  unfold wrap64; omega
def takesP (l : List Fnt) (d a : Int) : Int × Int := if d = 1 ∨ d = 2 then (0, 1) else if d = 3 ∨ d = 4 ∨ d = 16 ∨ d = 18 ∨ d = 19 then (1, 0) else if d = 5 ∨ d = 6 then (1, 1) else if d = 15 then (0, 0) else if d = 17 then (if a < 0 ∨ a ≥ (l.length : Int) then (0, 0) else ((rd_T29 l a).f0, 1)) else if d = 20 then (Int.tmod a 8, 1) else (2, 1)
theorem takes_ev (l : List Fnt) (m d a : Int) : Ev (fun k => sound_Takes.f k l m d a) (takesP l d a) := by
  have j2 : ∀ b : Bool, b = decide (d = 5 ∨ d = 6) → ¬ (d = 1 ∨ d = 2) → ¬ (d = 3 ∨ d = 4 ∨ d = 16 ∨ d = 18 ∨ d = 19) → Ev (fun k => sound_Takes.j2 k d b l m d a) (takesP l d a) := fun b hb n1 n2 => by
    refine Ev.step (f := fun _ => some (takesP l d a)) (fun k => ?_) (Ev.now _)
    unfold takesP
    rw [sound_Takes.j2, if_neg n1, if_neg n2, hb]
    by_cases c1 : d = 5 ∨ d = 6
    · rw [if_pos (decide_eq_true c1), if_pos c1]
    · rw [if_neg (by simp [c1]), if_neg c1]
      by_cases c2 : d = 15
      · rw [if_pos c2, if_pos c2]
      · rw [if_neg c2, if_neg c2]
        by_cases c3 : d = 17
        · rw [if_pos c3, if_pos c3]
          by_cases c4 : a < 0
          · rw [if_pos c4, if_pos (.inl c4)]
          · rw [if_neg c4]
            by_cases c5 : a ≥ (l.length : Int)
            · rw [if_pos c5, if_pos (.inr c5)]
            · rw [if_neg c5, if_pos (by omega), if_pos (by omega), if_neg (by omega)]
        · rw [if_neg c3, if_neg c3]
          split <;> rfl
  have j1 : ∀ b : Bool, b = decide (d = 3 ∨ d = 4 ∨ d = 16 ∨ d = 18 ∨ d = 19) → ¬ (d = 1 ∨ d = 2) → Ev (fun k => sound_Takes.j1 k d b l m d a) (takesP l d a) := fun b hb n1 => by
    by_cases c : d = 3 ∨ d = 4 ∨ d = 16 ∨ d = 18 ∨ d = 19
    · refine Ev.step (f := fun _ => some (takesP l d a)) (fun k => ?_) (Ev.now _)
      unfold takesP
      rw [sound_Takes.j1, hb, if_pos (decide_eq_true c), if_neg n1, if_pos c]
    · refine Ev.step (f := fun k => sound_Takes.j2 k d (decide (d = 5 ∨ d = 6)) l m d a) (fun k => ?_) (j2 _ rfl n1 c)
      rw [sound_Takes.j1, hb, if_neg (by simp [c])]
      by_cases c5 : d = 5
      · rw [if_pos c5]; subst c5; rfl
      · rw [if_neg c5]
        congr 1
        by_cases c6 : d = 6
        · subst c6; rfl
        · rw [decide_eq_false (by omega)]; simpa using c6
  have j0 : ∀ b : Bool, b = decide (d = 1 ∨ d = 2) → Ev (fun k => sound_Takes.j0 k d b l m d a) (takesP l d a) := fun b hb => by
    by_cases c : d = 1 ∨ d = 2
    · refine Ev.step (f := fun _ => some (takesP l d a)) (fun k => ?_) (Ev.now _)
      unfold takesP
      rw [sound_Takes.j0, hb, if_pos (decide_eq_true c), if_pos c]
    · refine Ev.step (f := fun k => sound_Takes.j1 k d (decide (d = 3 ∨ d = 4 ∨ d = 16 ∨ d = 18 ∨ d = 19)) l m d a) (fun k => ?_) (j1 _ rfl c)
      rw [sound_Takes.j0, hb, if_neg (by simp [c])]
      by_cases c3 : d = 3
      · subst c3; rfl
      by_cases c4 : d = 4
      · subst c4; rfl
      by_cases c16 : d = 16
      · subst c16; rfl
      by_cases c18 : d = 18
      · subst c18; rfl
      rw [if_neg c3, if_neg c4, if_neg c16, if_neg c18]
      congr 1
      by_cases c19 : d = 19
      · subst c19; rfl
      · rw [decide_eq_false (by omega)]; simpa using c19
  unfold sound_Takes.f
  by_cases c : d = 1
  · simp only [if_pos c]; exact j0 _ (by subst c; rfl)
  · simp only [if_neg c]
    refine j0 _ ?_
    by_cases c2 : d = 2
    · subst c2; rfl
    · rw [decide_eq_false (by omega)]; simpa using c2
def limP (nf nv no d : Int) : Int := if d = 2 ∨ d = 3 then nv else if d = 15 ∨ d = 16 then no else if d = 17 then nf else if d = 20 then 128 else 1
def errP (nf nv no d a : Int) : Int := if d = 1 then 0 else if d < 1 ∨ d > 20 then 3 else if a < 0 ∨ a ≥ limP nf nv no d then 1 else if d = 20 ∧ Int.tmod a 8 > 6 then 1 else 0
theorem op_ev (l : List Fnt) (m f0 f1 : Int) (ops : List Opn) (d a : Int) : Ev (fun k => sound_op.f k l m f0 f1 ops d a) (errP l.length f1 ops.length d a) := by
  by_cases c1 : d = 1
  · refine Ev.congr (fun k => ?_) (Ev.now _)
    unfold sound_op.f errP
    rw [if_pos c1, if_pos c1]
  have j2 : ∀ x, x = limP l.length f1 ops.length d → Ev (fun k => sound_op.j2 k x d a) (errP l.length f1 ops.length d a) := fun x hx => by
    have j3 : Ev (fun k => sound_op.j3 k x (decide (d < 1 ∨ d > 20)) d a) (errP l.length f1 ops.length d a) := by
      refine Ev.step (f := fun _ => some (errP l.length f1 ops.length d a)) (fun k => ?_) (Ev.now _)
      unfold errP
      rw [sound_op.j3, if_neg c1, ← hx]
      by_cases c : d < 1 ∨ d > 20
      · rw [if_pos (decide_eq_true c), if_pos c]
      · rw [if_neg (by simp [c]), if_neg c]
        by_cases c2 : a < 0
        · rw [if_pos c2, if_pos (.inl c2)]
        · rw [if_neg c2]
          by_cases c3 : a ≥ x
          · rw [if_pos c3, if_pos (.inr c3)]
          · rw [if_neg c3, if_neg (show ¬ (a < 0 ∨ a ≥ x) by omega)]
            by_cases c4 : d = 20
            · rw [if_pos c4]
              by_cases c5 : Int.tmod a 8 > 6
              · rw [if_pos c5, if_pos ⟨c4, c5⟩]
              · rw [if_neg c5, if_neg (fun h => c5 h.2)]
            · rw [if_neg c4, if_neg (fun h => c4 h.1)]
    refine Ev.step (fun k => ?_) j3
    rw [sound_op.j2]
    by_cases c : d < 1
    · rw [if_pos c, decide_eq_true (.inl c)]
    · rw [if_neg c]
      congr 1
      exact decide_eq_decide.2 (by omega)
  have j1 : ∀ b : Bool, b = decide (d = 15 ∨ d = 16) → ¬ (d = 2 ∨ d = 3) → Ev (fun k => sound_op.j1 k 1 d b l m f0 f1 ops d a) (errP l.length f1 ops.length d a) := fun b hb n2 => by
    by_cases c : d = 15 ∨ d = 16
    · refine Ev.step (fun k => ?_) (j2 (ops.length : Int) (by unfold limP; rw [if_neg n2, if_pos c]))
      rw [sound_op.j1, hb, if_pos (decide_eq_true c)]
    · by_cases c3 : d = 17
      · refine Ev.step (fun k => ?_) (j2 (l.length : Int) (by unfold limP; rw [if_neg n2, if_neg c, if_pos c3]))
        rw [sound_op.j1, hb, if_neg (by simp [c]), if_pos c3]
      · by_cases c4 : d = 20
        · refine Ev.step (fun k => ?_) (j2 128 (by unfold limP; rw [if_neg n2, if_neg c, if_neg c3, if_pos c4]))
          rw [sound_op.j1, hb, if_neg (by simp [c]), if_neg c3, if_pos c4]
        · refine Ev.step (fun k => ?_) (j2 1 (by unfold limP; rw [if_neg n2, if_neg c, if_neg c3, if_neg c4]))
          rw [sound_op.j1, hb, if_neg (by simp [c]), if_neg c3, if_neg c4]
  have j0 : ∀ b : Bool, b = decide (d = 2 ∨ d = 3) → Ev (fun k => sound_op.j0 k 1 d b l m f0 f1 ops d a) (errP l.length f1 ops.length d a) := fun b hb => by
    by_cases c : d = 2 ∨ d = 3
    · refine Ev.step (fun k => ?_) (j2 f1 (by unfold limP; rw [if_pos c]))
      rw [sound_op.j0, hb, if_pos (decide_eq_true c)]
    · refine Ev.step (fun k => ?_) (j1 (decide (d = 15 ∨ d = 16)) rfl c)
      rw [sound_op.j0, hb, if_neg (by simp [c])]
      by_cases c15 : d = 15
      · subst c15; rfl
      · rw [if_neg c15]
        congr 1
        by_cases c16 : d = 16
        · subst c16; rfl
        · rw [decide_eq_false (by omega)]; simpa using c16
  unfold sound_op.f
  simp only [if_neg c1]
  by_cases c : d = 2
  · simp only [if_pos c]; exact j0 _ (by subst c; rfl)
  · simp only [if_neg c]
    refine j0 _ ?_
    by_cases c3 : d = 3
    · subst c3; rfl
    · rw [decide_eq_false (by omega)]; simpa using c3
theorem and7 : ∀ a : Fin 128, Go.bits .and .i64 (a.val : Int) 7 = Int.tmod (a.val : Int) 8 := by decide +kernel
theorem tab_none {d : Int} (h : tourref5_opOf.tab d = none) : ¬ (d = 1 ∨ d = 2 ∨ d = 3 ∨ d = 4 ∨ d = 5 ∨ d = 6 ∨ d = 15 ∨ d = 16 ∨ d = 17 ∨ d = 18 ∨ d = 19 ∨ d = 20) := by
  rintro (h1 | h1 | h1 | h1 | h1 | h1 | h1 | h1 | h1 | h1 | h1 | h1) <;> subst h1 <;> exact absurd h (by decide)
/-- The reference's word of an operation. -/
def Says (l : List Fnt) (m f0 f1 : Int) (ops : List Opn) (d a : Int) : Prop := ∃ p q lim ok, tourref5_opOf.f l m f0 f1 ops d a = some (p, q, lim, ok) ∧ ok = decide (1 ≤ d ∧ d ≤ 20) ∧ (1 ≤ d → d ≤ 20 → d ≠ 1 → lim = limP l.length f1 ops.length d) ∧
    (errP l.length f1 ops.length d a = 0 → takesP l d a = (p, q)) ∧ (d = 20 → 0 ≤ a → a < 128 → p = Int.tmod a 8)
theorem opOf_says (l : List Fnt) (m f0 f1 : Int) (ops : List Opn) (d a : Int) : Says l m f0 f1 ops d a := by
  by_cases hd : d = 1 ∨ d = 2 ∨ d = 3 ∨ d = 4 ∨ d = 5 ∨ d = 6 ∨ d = 15 ∨ d = 16 ∨ d = 17 ∨ d = 18 ∨ d = 19 ∨ d = 20
  · have key : ∀ x, tourref5_opOf.tab d = some x → takesP l d a = (x.1, x.2.1) ∨ d = 17 ∨ d = 20 → (1 ≤ d ∧ d ≤ 20) → (d ≠ 1 → tourref5_opOf.lim l f1 ops d x.2.2 = limP l.length f1 ops.length d) → x.2.1 = (if d = 17 ∨ d = 20 then 1 else x.2.1) → Says l m f0 f1 ops d a := fun x hx ht hr hl h1 => by
      refine ⟨tourref5_opOf.pops l d a x.1, x.2.1, tourref5_opOf.lim l f1 ops d x.2.2, true, by unfold tourref5_opOf.f; rw [hx], (decide_eq_true hr).symm, fun _ _ h => hl h, fun he => ?_, fun h20 ha0 ha1 => ?_⟩
      · by_cases h17 : d = 17
        · subst h17
          have hv : 0 ≤ a ∧ a < (l.length : Int) := by
            have hL : limP (l.length : Int) f1 (ops.length : Int) 17 = (l.length : Int) := rfl
            unfold errP at he
            rw [if_neg (show ¬ (17 : Int) = 1 by omega), if_neg (show ¬ ((17 : Int) < 1 ∨ (17 : Int) > 20) by omega), hL] at he
            by_cases c : a < 0 ∨ a ≥ (l.length : Int)
            · rw [if_pos c] at he; omega
            · omega
          unfold takesP tourref5_opOf.pops
          rw [if_neg (by omega), if_neg (by omega), if_neg (by omega), if_neg (by omega), if_pos rfl, if_neg (by omega), if_pos ⟨rfl, hv.1, hv.2⟩, h1, if_pos (.inl rfl)]
        · by_cases h20 : d = 20
          · subst h20
            have hv : 0 ≤ a ∧ a < 128 := by
              have hL : limP (l.length : Int) f1 (ops.length : Int) 20 = 128 := rfl
              unfold errP at he
              rw [if_neg (show ¬ (20 : Int) = 1 by omega), if_neg (show ¬ ((20 : Int) < 1 ∨ (20 : Int) > 20) by omega), hL] at he
              by_cases c : a < 0 ∨ a ≥ (128 : Int)
              · rw [if_pos c] at he; omega
              · omega
            have e := and7 ⟨a.toNat, by omega⟩
            simp only [Int.toNat_of_nonneg hv.1] at e
            unfold takesP tourref5_opOf.pops tourref5_opOf.low
            rw [if_neg (by omega), if_neg (by omega), if_neg (by omega), if_neg (by omega), if_neg (by omega), if_pos rfl, if_neg (by omega), if_pos rfl, h1, if_pos (.inr rfl), e]
          · rcases ht with ht | ht | ht
            · rw [ht]
              unfold tourref5_opOf.pops
              rw [if_neg (fun h => h17 h.1), if_neg h20]
            · exact absurd ht h17
            · exact absurd ht h20
      · subst h20
        have e := and7 ⟨a.toNat, by omega⟩
        simp only [Int.toNat_of_nonneg ha0] at e
        unfold tourref5_opOf.pops tourref5_opOf.low
        rw [if_neg (by omega), if_pos rfl, e]
    rcases hd with h | h | h | h | h | h | h | h | h | h | h | h <;> subst h
    · exact key (0, 1, 0) (by decide) (.inl rfl) (by omega) (fun h => absurd rfl h) rfl
    · exact key (0, 1, -1) (by decide) (.inl rfl) (by omega) (fun _ => rfl) rfl
    · exact key (1, 0, -1) (by decide) (.inl rfl) (by omega) (fun _ => rfl) rfl
    · exact key (1, 0, 1) (by decide) (.inl rfl) (by omega) (fun _ => rfl) rfl
    · exact key (1, 1, 1) (by decide) (.inl rfl) (by omega) (fun _ => rfl) rfl
    · exact key (1, 1, 1) (by decide) (.inl rfl) (by omega) (fun _ => rfl) rfl
    · exact key (0, 0, -1) (by decide) (.inl rfl) (by omega) (fun _ => rfl) rfl
    · exact key (1, 0, -1) (by decide) (.inl rfl) (by omega) (fun _ => rfl) rfl
    · exact key (0, 1, -1) (by decide) (.inr (.inl rfl)) (by omega) (fun _ => rfl) rfl
    · exact key (1, 0, 1) (by decide) (.inl rfl) (by omega) (fun _ => rfl) rfl
    · exact key (1, 0, 1) (by decide) (.inl rfl) (by omega) (fun _ => rfl) rfl
    · exact key (0, 1, 128) (by decide) (.inr (.inr rfl)) (by omega) (fun _ => rfl) rfl
  · have ht : tourref5_opOf.tab d = none := by
      unfold tourref5_opOf.tab
      rw [if_neg (by omega), if_neg (by omega), if_neg (by omega), if_neg (by omega), if_neg (by omega), if_neg (by omega), if_neg (by omega), if_neg (by omega), if_neg (by omega), if_neg (by omega), if_neg (by omega), if_neg (by omega)]
    refine ⟨2, 1, 1, _, by unfold tourref5_opOf.f; rw [ht], decide_eq_decide.2 (by omega), fun _ _ _ => ?_, fun _ => ?_, fun h => by omega⟩
    · unfold limP
      rw [if_neg (by omega), if_neg (by omega), if_neg (by omega), if_neg (by omega)]
    · unfold takesP
      rw [if_neg (by omega), if_neg (by omega), if_neg (by omega), if_neg (by omega), if_neg (by omega), if_neg (by omega)]
end Go.Proofs.Ytkoopdoeehoigaa.SoundOpsSoundTells
