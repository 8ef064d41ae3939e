/- Openers: what a law's argument reads as, in the print's own kinds ('Kd'): whole numbers, bools, strings, slices, structs, arrays. Under no condition. -/
import Derived.WalkKit
import Derived.ProofKit
import Derived.OpenShut
import Derived.ShutString
import Derived.ChangeOld
import Derived.Below
import Derived.SizedLaws
import Derived.Laws.IdiomArrays
import Derived.Deep.Slices
import Derived.Test.YtdopeneehminaaaWWords
import Derived.Test.YtdopeneehminaaaWLast
import Derived.Test.YtdopeneehminaaaWMore
namespace Go.Proofs.Ytdopeneehminaaa.Opens
open Go.RowKit Go.Proofs.YtdopeneehminaaaW.PrintWords Go.Proofs.YtdopeneehminaaaW.PrintLast
set_option linter.unusedVariables false

/-- Whatever can be read as data of type t, reads as a value of the kind d that is 'ok'. -/
def Opens (P : Program) (W : World) (t : TypeId) {α : Type} (d : Kd α) (ok : α → Prop) : Prop :=
  ∀ (H : Type) (enc : TypeId × Value → H) (base : Nat) (spare : Nat → Bool) (held : Bool) (fuel : Nat) (cs : List Value) (x : DataW H × List MemPlace),
    DataW.trod enc P W base spare held fuel t cs = some x → ∃ a, d.K W a cs ∧ ok a

theorem opens_mono {P : Program} {W : World} {t : TypeId} {α : Type} {d : Kd α} {ok ok' : α → Prop} (h : Opens P W t d ok) (hk : ∀ a, ok a → ok' a) : Opens P W t d ok' :=
  fun H enc base spare held fuel cs x hx => let ⟨a, h1, h2⟩ := h H enc base spare held fuel cs x hx; ⟨a, h1, hk a h2⟩

theorem opens_int {P : Program} {W : World} {t : TypeId} {k : IntKind} (ht : P.underlying t = some (.int k)) : Opens P W t (Kd.int k) (fun n => (Lit.int k n).wf = true) := by
  intro H enc base spare held fuel cs x hx
  obtain ⟨n, rfl, _, hw⟩ := DataW.trod_int ht hx
  exact ⟨n, rfl, hw⟩

theorem opens_bool {P : Program} {W : World} {t : TypeId} (ht : P.underlying t = some .bool) : Opens P W t Kd.bool (fun _ => True) := by
  intro H enc base spare held fuel cs x hx
  obtain _ | fuel := fuel
  · simp [DataW.trod] at hx
  · unfold DataW.trod at hx
    rw [ht] at hx
    dsimp only at hx
    split at hx <;> first | (rename_i h0; cases h0; done) | skip
    all_goals first | (simp_all; done) | skip
    all_goals (rename_i b _; exact ⟨b, rfl, trivial⟩)

theorem exists_list {α : Type} {Q : Nat → α → Prop} : ∀ n, (∀ i, i < n → ∃ a, Q i a) → ∃ xs : List α, xs.length = n ∧ ∀ i a, xs[i]? = some a → Q i a
  | 0, _ => ⟨[], rfl, fun i a h => by simp at h⟩
  | n + 1, h => by
    obtain ⟨xs, hl, hx⟩ := exists_list n (fun i hi => h i (by omega))
    obtain ⟨a, ha⟩ := h n (by omega)
    refine ⟨xs ++ [a], by simp [hl], fun i b hb => ?_⟩
    rcases Nat.lt_or_ge i xs.length with hi | hi
    · rw [List.getElem?_append_left hi] at hb
      exact hx i b hb
    · rw [List.getElem?_append_right hi] at hb
      have h0 : i - xs.length = 0 := by
        rcases Nat.eq_zero_or_pos (i - xs.length) with h0 | h0
        · exact h0
        · rw [List.getElem?_eq_none (by simp; omega)] at hb
          cases hb
      rw [h0] at hb
      simp at hb
      subst hb
      have : i = n := by omega
      subst this
      exact ha

theorem opens_slice {P : Program} {W : World} {t e : TypeId} {α : Type} {d : Kd α} {ok : α → Prop} (tag : Nat) (ht : P.underlying t = some (.slice e)) (hc : P.cellsOf e = d.sz) (he : Opens P W e d ok) :
    Opens P W t (Kd.slice tag d) (fun xs => xs.length ≤ 9223372036854775807 ∧ ∀ x ∈ xs, ok x) := by
  intro H enc base spare held fuel cs x hx
  rcases Deep.open_slice ht hx with ⟨rfl, _⟩ | ⟨a, len, cap, m, n, D, Pl, rfl, hb, hl, hm, hmm, hxx, hel⟩
  · exact ⟨[], ⟨none, 0, rfl, Nat.le_refl _, rfl, by simp, fun h => by simp at h⟩, by simp, by simp⟩
  · have hlm : len ≤ m := by rw [hmm]; split <;> omega
    unfold maxLen at hm
    obtain ⟨xs, hxl, hxs⟩ := exists_list (Q := fun i (p : α) => ok p ∧ ∃ c, c.length = d.sz ∧ d.K W p c ∧ ∀ j u, c[j]? = some u → W.cell? (a.add (i * d.sz + j)) = some u) len (by
      intro i hi
      obtain ⟨cs', h1, h2⟩ := hel i (by omega)
      obtain ⟨p, hp, hok⟩ := he H enc base spare held n cs' _ h2
      obtain ⟨hbb, hlen, hcell⟩ := World.cells?_some h1
      refine ⟨p, hok, cs', d.K_len hp, hp, fun j u hu => ?_⟩
      have hj : j < P.cellsOf e := by
        rw [← hlen]
        exact (List.getElem?_eq_some_iff.1 hu).1
      have := hcell j hj
      rw [hc] at this
      rw [← hu, ← this, Go.Addr.add_add])
    refine ⟨xs, ⟨some a, cap, by rw [hxl], by omega, rfl, by omega, fun _ => ⟨a, rfl, fun j p hj => ?_⟩⟩, by omega, fun x hx => ?_⟩
    · obtain ⟨_, c, h1, h2, h3⟩ := hxs j p hj
      exact ⟨c, h1, h2, h3⟩
    · obtain ⟨i, hi⟩ := List.getElem?_of_mem hx
      exact (hxs i x hi).1

/-- The fields from an offset on. -/
def OpensAt (P : Program) (W : World) (fs : List Field) (off : Nat) {α : Type} (d : Kd α) (ok : α → Prop) : Prop :=
  ∀ (H : Type) (enc : TypeId × Value → H) (base : Nat) (spare : Nat → Bool) (held : Bool) (fuel : Nat) (cs : List Value) (xs : List (DataW H × List MemPlace)),
    (fs.mapM fun f => DataW.trod enc P W base spare held fuel f.type ((cs.drop f.offset).take (P.cellsOf f.type))) = some xs → ∃ a, d.K W a ((cs.drop off).take d.sz) ∧ ok a

theorem opensAt_one {P : Program} {W : World} {f : Field} {off : Nat} {α : Type} {d : Kd α} {ok : α → Prop} (ho : f.offset = off) (hc : P.cellsOf f.type = d.sz) (hf : Opens P W f.type d ok) : OpensAt P W [f] off d ok := by
  intro H enc base spare held fuel cs xs hx
  simp only [List.mapM_cons, List.mapM_nil, Option.bind_eq_bind, Option.pure_def] at hx
  cases h : DataW.trod enc P W base spare held fuel f.type ((cs.drop f.offset).take (P.cellsOf f.type)) with
  | none => rw [h] at hx; simp at hx
  | some y =>
    have := hf H enc base spare held fuel _ y h
    rw [ho, hc] at this
    exact this

theorem opensAt_cons {P : Program} {W : World} {f : Field} {fs : List Field} {off : Nat} {α β : Type} {d : Kd α} {db : Kd β} {ok : α → Prop} {okb : β → Prop} (ho : f.offset = off) (hc : P.cellsOf f.type = d.sz) (hf : Opens P W f.type d ok)
    (hfs : OpensAt P W fs (off + d.sz) db okb) : OpensAt P W (f :: fs) off (Kd.pair d db) (fun x => ok x.1 ∧ okb x.2) := by
  intro H enc base spare held fuel cs xs hx
  simp only [List.mapM_cons, Option.bind_eq_bind, Option.pure_def] at hx
  cases h : DataW.trod enc P W base spare held fuel f.type ((cs.drop f.offset).take (P.cellsOf f.type)) with
  | none => rw [h] at hx; simp at hx
  | some y =>
    rw [h] at hx
    simp only [Option.bind_some] at hx
    cases h2 : (fs.mapM fun f => DataW.trod enc P W base spare held fuel f.type ((cs.drop f.offset).take (P.cellsOf f.type))) with
    | none => rw [h2] at hx; simp at hx
    | some ys =>
      obtain ⟨a, ha, hoka⟩ := hf H enc base spare held fuel _ y h
      obtain ⟨b, hb, hokb⟩ := hfs H enc base spare held fuel cs ys h2
      rw [ho, hc] at ha
      refine ⟨(a, b), ⟨_, _, ?_, ha, hb⟩, hoka, hokb⟩
      show (cs.drop off).take (d.sz + db.sz) = _
      rw [List.take_add, List.drop_drop]

theorem opens_struct {P : Program} {W : World} {t : TypeId} {fs : Array Field} {α : Type} {d : Kd α} {ok : α → Prop} (ht : P.underlying t = some (.struct fs)) (hc : P.cellsOf t = d.sz) (h : OpensAt P W fs.toList 0 d ok) : Opens P W t d ok := by
  intro H enc base spare held fuel cs x hx
  obtain _ | fuel := fuel
  · simp [DataW.trod] at hx
  · unfold DataW.trod at hx
    rw [ht] at hx
    dsimp only at hx
    split at hx
    · rename_i hl
      cases h2 : (fs.toList.mapM fun f => DataW.trod enc P W base spare held fuel f.type ((cs.drop f.offset).take (P.cellsOf f.type))) with
      | none => rw [h2] at hx; simp at hx
      | some ys =>
        obtain ⟨a, ha, hok⟩ := h H enc base spare held fuel cs ys h2
        refine ⟨a, ?_, hok⟩
        rw [List.drop_zero, ← hc, ← hl, List.take_length] at ha
        exact ha
    · cases hx

theorem opens_iso {P : Program} {W : World} {t : TypeId} {α β : Type} {d : Kd α} {ok : α → Prop} (f : β → α) (g : α → β) (hfg : ∀ a, f (g a) = a) (h : Opens P W t d ok) : Opens P W t (Kd.iso d f) (fun b => ok (f b)) := by
  intro H enc base spare held fuel cs x hx
  obtain ⟨a, ha, hok⟩ := h H enc base spare held fuel cs x hx
  refine ⟨g a, ?_, ?_⟩
  · show d.K W (f (g a)) cs
    rw [hfg]; exact ha
  · show ok (f (g a))
    rw [hfg]; exact hok

theorem opens_int3 {P : Program} {W : World} {t e : TypeId} {k : IntKind} (ht : P.underlying t = some (.array 3 e)) (hce : P.cellsOf e = 1) (hct : P.cellsOf t = 3) (he : P.underlying e = some (.int k)) :
    Opens P W t (Kd.pair (Kd.int k) (Kd.pair (Kd.int k) (Kd.int k))) (fun x => (Lit.int k x.1).wf = true ∧ (Lit.int k x.2.1).wf = true ∧ (Lit.int k x.2.2).wf = true) := by
  intro H enc base spare held fuel cs x hx
  obtain ⟨xs, m, _, _, hl, _, _⟩ := DataW.trod_array ht hx
  rw [hct] at hl
  obtain ⟨c0, c1, c2, rfl⟩ : ∃ c0 c1 c2, cs = [c0, c1, c2] := by
    match cs, hl with
    | [c0, c1, c2], _ => exact ⟨c0, c1, c2, rfl⟩
  obtain ⟨y0, y1, y2, n, _, h0, h1, h2⟩ := Go.ChangeShapes.trod_array3 ht hce hx
  obtain ⟨n0, e0, _, w0⟩ := DataW.trod_int he h0
  obtain ⟨n1, e1, _, w1⟩ := DataW.trod_int he h1
  obtain ⟨n2, e2, _, w2⟩ := DataW.trod_int he h2
  obtain rfl : c0 = .int k n0 := by simpa using e0
  obtain rfl : c1 = .int k n1 := by simpa using e1
  obtain rfl : c2 = .int k n2 := by simpa using e2
  exact ⟨(n0, n1, n2), ⟨[.int k n0], [.int k n1, .int k n2], rfl, rfl, ⟨[.int k n1], [.int k n2], rfl, rfl, rfl⟩⟩, w0, w1, w2⟩
end Go.Proofs.Ytdopeneehminaaa.Opens
