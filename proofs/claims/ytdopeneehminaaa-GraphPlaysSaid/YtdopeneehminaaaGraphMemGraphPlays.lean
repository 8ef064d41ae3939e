/- A scene in memory: a box and four rows. Under the conditions that stand at each. -/
import Derived.Test.YtdopeneehminaaaPGraphPlaysx
import Derived.Outline
namespace Go.Proofs.Ytdopeneehminaaa.GraphMemGraphPlays
open Go Go.RowKit Go.Proofs.YtdopeneehminaaaW.PrintWords Go.Proofs.YtdopeneehminaaaW.PrintLast Go.Proofs.YtdopeneehminaaaW.PrintMore Go.Proofs.Ytdopeneehminaaa.Fnv Go.Proofs.Ytdopeneehminaaa.PGraphPlays
set_option linter.unusedVariables false
abbrev tG : TypeId := 80
abbrev tP : TypeId := 52
/-- A place. -/
structure Pl where
  x : Int
  y : Int
  a : Int
  s : Int
def Pl.cells (p : Pl) : List Value := [.int .i64 p.x, .int .i64 p.y, .int .i64 p.a, .int .i64 p.s]
def pl0 : Pl := ⟨0, 0, 0, 0⟩
def flat : List Pl → List Value
  | [] => []
  | p :: l => .int .i64 p.x :: .int .i64 p.y :: .int .i64 p.a :: .int .i64 p.s :: flat l
theorem flat_length : ∀ l : List Pl, (flat l).length = l.length * 4
  | [] => rfl
  | p :: l => by simp only [flat, List.length_cons, flat_length l]; omega
theorem flat_append : ∀ l m : List Pl, flat (l ++ m) = flat l ++ flat m
  | [], m => rfl
  | p :: l, m => by simp only [flat, List.cons_append, flat_append l m]
def plAt (l : List Pl) (i : Nat) : Pl := l.getD i pl0
theorem flat_at : ∀ (l : List Pl) (i : Nat), i < l.length → (flat l)[i * 4]? = some (.int .i64 (plAt l i).x) ∧ (flat l)[i * 4 + 1]? = some (.int .i64 (plAt l i).y) ∧ (flat l)[i * 4 + 2]? = some (.int .i64 (plAt l i).a) ∧ (flat l)[i * 4 + 3]? = some (.int .i64 (plAt l i).s)
  | [], _, h => by simp at h
  | p :: l, 0, _ => ⟨rfl, rfl, rfl, rfl⟩
  | p :: l, i + 1, h => by
    have := flat_at l i (by simpa using h)
    rw [show (i + 1) * 4 = i * 4 + 1 + 1 + 1 + 1 by omega]
    exact this
theorem flat_set : ∀ (l : List Pl) (i : Nat) (p : Pl), ((((flat l).set (i * 4) (.int .i64 p.x)).set (i * 4 + 1) (.int .i64 p.y)).set (i * 4 + 2) (.int .i64 p.a)).set (i * 4 + 3) (.int .i64 p.s) = flat (l.set i p)
  | [], _, _ => rfl
  | q :: l, 0, _ => rfl
  | q :: l, i + 1, p => by
    have := flat_set l i p
    rw [show (i + 1) * 4 = i * 4 + 1 + 1 + 1 + 1 by omega]
    simp only [flat, List.set_cons_succ, this]
/-- A scene. -/
structure GS where
  up : List Int
  own : List Pl
  kn : List Bool
  wh : List Pl
  n : Int
/-- Where it stands: the box, the rows. -/
structure GM (W0 : World) (g b0 b1 b2 b3 c0 c1 c2 c3 : Nat) (w : World) (s : GS) : Prop where
  box : w.heap[g]? = some (.cells #[.slice (some ⟨b0, 0, none⟩) s.up.length c0, .slice (some ⟨b1, 0, none⟩) s.own.length c1, .slice (some ⟨b2, 0, none⟩) s.kn.length c2, .slice (some ⟨b3, 0, none⟩) s.wh.length c3, .int .i64 s.n] tG (0, 0))
  r0 : w.ownsRow W0.heap.size 3 1 (.slice (some ⟨b0, 0, none⟩) s.up.length c0) s.up.length (s.up.map (Value.int .i64))
  r1 : w.ownsRow W0.heap.size tP 4 (.slice (some ⟨b1, 0, none⟩) s.own.length c1) s.own.length (flat s.own)
  r2 : w.ownsRow W0.heap.size 4 1 (.slice (some ⟨b2, 0, none⟩) s.kn.length c2) s.kn.length (s.kn.map Value.bool)
  r3 : w.ownsRow W0.heap.size tP 4 (.slice (some ⟨b3, 0, none⟩) s.wh.length c3) s.wh.length (flat s.wh)
  ne : b1 ≠ b3
  g0 : W0.heap.size ≤ g
  bel : Below W0.heap.size W0 w
/-- Only these three blocks may have changed. -/
structure Kq (g b2 b3 : Nat) (w w' : World) : Prop where
  size : w.heap.size ≤ w'.heap.size
  block : ∀ j, j < w.heap.size → j ≠ g → j ≠ b2 → j ≠ b3 → w'.heap[j]? = w.heap[j]?
theorem Kq.refl (g b2 b3 : Nat) (w : World) : Kq g b2 b3 w w := ⟨Nat.le_refl _, fun _ _ _ _ _ => rfl⟩
theorem Kq.trans {g b2 b3 : Nat} {w w1 w2 : World} (h : Kq g b2 b3 w w1) (k : Kq g b2 b3 w1 w2) : Kq g b2 b3 w w2 :=
  ⟨Nat.le_trans h.size k.size, fun j h1 h2 h3 h4 => (k.block j (Nat.lt_of_lt_of_le h1 h.size) h2 h3 h4).trans (h.block j h1 h2 h3 h4)⟩
theorem Kq.of {g b2 b3 : Nat} {w w1 : World} (h : Below w.heap.size w w1) : Kq g b2 b3 w w1 := ⟨h.size, fun j h1 _ _ _ => h.block j h1⟩
theorem Kq.set {g b2 b3 : Nat} (w : World) (b i : Nat) (v : Value) (hb : b = g ∨ b = b2 ∨ b = b3) : Kq g b2 b3 w (w.setCell ⟨b, i, none⟩ v) :=
  ⟨by simp [World.setCell], fun j _ h2 h3 h4 => Below.heap_setCell w _ v j (by intro e; subst e; rcases hb with e | e | e <;> simp_all)⟩
theorem Kq.blk {g b2 b3 b : Nat} {w w1 : World} {o : Obj} (h : Kq g b2 b3 w w1) (hb : w.heap[b]? = some o) (h1 : b ≠ g) (h2 : b ≠ b2) (h3 : b ≠ b3) : w1.heap[b]? = some o := (h.block b (blk_lt hb) h1 h2 h3).trans hb
theorem ty {w : World} {g g' t t' : Nat} {c c' : Array Value} (h : w.heap[g]? = some (.cells c t (0, 0))) (h' : w.heap[g']? = some (.cells c' t' (0, 0))) (hne : t ≠ t') : g ≠ g' := by
  intro e; subst e; rw [h] at h'; injection h' with h'; injection h' with _ h'; exact hne h'
section
variable {W0 w w1 : World} {g b0 b1 b2 b3 c0 c1 c2 c3 : Nat} {s : GS}
theorem row_at {B e sz b n c : Nat} {vs : List Value} (h : w.ownsRow B e sz (.slice (some ⟨b, 0, none⟩) n c) n vs) {i : Nat} {v : Value} (hv : vs[i]? = some v) : w.cell? ⟨b, i, none⟩ = some v ∧ w.frozen? ⟨b, i, none⟩ = false := by
  refine ⟨by have := h.cells (g := b) rfl i v hv; rwa [add_plain] at this, ?_⟩
  obtain ⟨cells, hc⟩ := own_typed h b rfl
  exact blk_frozen hc i
theorem GM.below (h : GM W0 g b0 b1 b2 b3 c0 c1 c2 c3 w s) (hb : Below w.heap.size w w1) : GM W0 g b0 b1 b2 b3 c0 c1 c2 c3 w1 s :=
  ⟨blk_below h.box hb, pw_own_below h.r0 hb, pw_own_below h.r1 hb, pw_own_below h.r2 hb, pw_own_below h.r3 hb, h.ne, h.g0, below_step h.bel hb⟩
/-- A store into a box elsewhere. -/
theorem GM.far (h : GM W0 g b0 b1 b2 b3 c0 c1 c2 c3 w s) {b i : Nat} {v : Value} (hb : W0.heap.size ≤ b) (n : b ≠ g) (n0 : b ≠ b0) (n1 : b ≠ b1) (n2 : b ≠ b2) (n3 : b ≠ b3) : GM W0 g b0 b1 b2 b3 c0 c1 c2 c3 (w.setCell ⟨b, i, none⟩ v) s :=
  ⟨blk_far h.box (fun e => n e.symm) _, own_setCell h.r0 (by simpa [Value.ownBlock] using n0) _, own_setCell h.r1 (by simpa [Value.ownBlock] using n1) _, own_setCell h.r2 (by simpa [Value.ownBlock] using n2) _, own_setCell h.r3 (by simpa [Value.ownBlock] using n3) _, h.ne, h.g0, below_set h.bel hb⟩
/-- The blocks are apart. -/
theorem GM.apart (h : GM W0 g b0 b1 b2 b3 c0 c1 c2 c3 w s) : b0 ≠ g ∧ b1 ≠ g ∧ b2 ≠ g ∧ b3 ≠ g ∧ b0 ≠ b1 ∧ b0 ≠ b2 ∧ b0 ≠ b3 ∧ b1 ≠ b2 ∧ b2 ≠ b3 := by
  obtain ⟨d0, e0⟩ := own_typed h.r0 b0 rfl
  obtain ⟨d1, e1⟩ := own_typed h.r1 b1 rfl
  obtain ⟨d2, e2⟩ := own_typed h.r2 b2 rfl
  obtain ⟨d3, e3⟩ := own_typed h.r3 b3 rfl
  exact ⟨ty e0 h.box (by decide), ty e1 h.box (by decide), ty e2 h.box (by decide), ty e3 h.box (by decide), ty e0 e1 (by decide), ty e0 e2 (by decide), ty e0 e3 (by decide), ty e1 e2 (by decide), ty e2 e3 (by decide)⟩
theorem GM.lt (h : GM W0 g b0 b1 b2 b3 c0 c1 c2 c3 w s) : g < w.heap.size ∧ b0 < w.heap.size ∧ b1 < w.heap.size ∧ b2 < w.heap.size ∧ b3 < w.heap.size :=
  ⟨blk_lt h.box, own_lt h.r0 b0 rfl, own_lt h.r1 b1 rfl, own_lt h.r2 b2 rfl, own_lt h.r3 b3 rfl⟩
theorem GM.bs (h : GM W0 g b0 b1 b2 b3 c0 c1 c2 c3 w s) : W0.heap.size ≤ b0 ∧ W0.heap.size ≤ b1 ∧ W0.heap.size ≤ b2 ∧ W0.heap.size ≤ b3 :=
  ⟨own_base h.r0 b0 rfl, own_base h.r1 b1 rfl, own_base h.r2 b2 rfl, own_base h.r3 b3 rfl⟩
/-- What is known of a thing. -/
theorem GM.know (h : GM W0 g b0 b1 b2 b3 c0 c1 c2 c3 w s) (i : Nat) (b : Bool) : GM W0 g b0 b1 b2 b3 c0 c1 c2 c3 (w.setCell ⟨b2, i, none⟩ (.bool b)) { s with kn := s.kn.set i b } := by
  obtain ⟨a0, a1, a2, a3, a4, a5, a6, a7, a8⟩ := h.apart
  have hs := (h.r2.stored i (.bool b)).1
  have e : (s.kn.set i b).length = s.kn.length := List.length_set
  refine ⟨?_, own_setCell h.r0 (by simpa [Value.ownBlock] using fun e => a5 e.symm) _, own_setCell h.r1 (by simpa [Value.ownBlock] using fun e => a7 e.symm) _, ?_, own_setCell h.r3 (by simpa [Value.ownBlock] using a8) _, h.ne, h.g0, below_set h.bel h.bs.2.2.1⟩
  · simp only [e]; exact blk_far h.box (fun e => a2 e.symm) _
  · simp only [e]
    rw [List.map_set]; exact hs
/-- Where a thing is. -/
theorem GM.place (h : GM W0 g b0 b1 b2 b3 c0 c1 c2 c3 w s) (i : Nat) (p : Pl) : GM W0 g b0 b1 b2 b3 c0 c1 c2 c3 ((((w.setCell ⟨b3, i * 4, none⟩ (.int .i64 p.x)).setCell ⟨b3, i * 4 + 1, none⟩ (.int .i64 p.y)).setCell ⟨b3, i * 4 + 2, none⟩ (.int .i64 p.a)).setCell ⟨b3, i * 4 + 3, none⟩ (.int .i64 p.s)) { s with wh := s.wh.set i p } := by
  obtain ⟨a0, a1, a2, a3, a4, a5, a6, a7, a8⟩ := h.apart
  have q1 := (h.r3.stored (i * 4) (.int .i64 p.x)).1
  have q2 := (q1.stored (i * 4 + 1) (.int .i64 p.y)).1
  have q3 := (q2.stored (i * 4 + 2) (.int .i64 p.a)).1
  have q4 := (q3.stored (i * 4 + 3) (.int .i64 p.s)).1
  rw [flat_set] at q4
  have e : (s.wh.set i p).length = s.wh.length := List.length_set
  have f : ∀ {u : World} {b n c t sz : Nat} {vs : List Value} (v1 v2 v3 v4 : Value), b ≠ b3 → u.ownsRow W0.heap.size t sz (.slice (some ⟨b, 0, none⟩) n c) n vs → ((((u.setCell ⟨b3, i * 4, none⟩ v1).setCell ⟨b3, i * 4 + 1, none⟩ v2).setCell ⟨b3, i * 4 + 2, none⟩ v3).setCell ⟨b3, i * 4 + 3, none⟩ v4).ownsRow W0.heap.size t sz (.slice (some ⟨b, 0, none⟩) n c) n vs := fun v1 v2 v3 v4 hne hr =>
    own_setCell (own_setCell (own_setCell (own_setCell hr (by simpa [Value.ownBlock] using fun e => hne e.symm) _) (by simpa [Value.ownBlock] using fun e => hne e.symm) _) (by simpa [Value.ownBlock] using fun e => hne e.symm) _) (by simpa [Value.ownBlock] using fun e => hne e.symm) _
  refine ⟨?_, f _ _ _ _ a6 h.r0, f _ _ _ _ h.ne h.r1, f _ _ _ _ a8 h.r2, ?_, h.ne, h.g0, below_set (below_set (below_set (below_set h.bel h.bs.2.2.2) h.bs.2.2.2) h.bs.2.2.2) h.bs.2.2.2⟩
  · simp only [e]; exact blk_far (blk_far (blk_far (blk_far h.box (fun e => a3 e.symm) _) (fun e => a3 e.symm) _) (fun e => a3 e.symm) _) (fun e => a3 e.symm) _
  · simp only [e]; exact q4
/-- A thing's own place. -/
theorem GM.owned (h : GM W0 g b0 b1 b2 b3 c0 c1 c2 c3 w s) (i : Nat) (p : Pl) : GM W0 g b0 b1 b2 b3 c0 c1 c2 c3 ((((w.setCell ⟨b1, i * 4, none⟩ (.int .i64 p.x)).setCell ⟨b1, i * 4 + 1, none⟩ (.int .i64 p.y)).setCell ⟨b1, i * 4 + 2, none⟩ (.int .i64 p.a)).setCell ⟨b1, i * 4 + 3, none⟩ (.int .i64 p.s)) { s with own := s.own.set i p } := by
  obtain ⟨a0, a1, a2, a3, a4, a5, a6, a7, a8⟩ := h.apart
  have q1 := (h.r1.stored (i * 4) (.int .i64 p.x)).1
  have q2 := (q1.stored (i * 4 + 1) (.int .i64 p.y)).1
  have q3 := (q2.stored (i * 4 + 2) (.int .i64 p.a)).1
  have q4 := (q3.stored (i * 4 + 3) (.int .i64 p.s)).1
  rw [flat_set] at q4
  have e : (s.own.set i p).length = s.own.length := List.length_set
  have f : ∀ {u : World} {b n c t sz : Nat} {vs : List Value} (v1 v2 v3 v4 : Value), b ≠ b1 → u.ownsRow W0.heap.size t sz (.slice (some ⟨b, 0, none⟩) n c) n vs → ((((u.setCell ⟨b1, i * 4, none⟩ v1).setCell ⟨b1, i * 4 + 1, none⟩ v2).setCell ⟨b1, i * 4 + 2, none⟩ v3).setCell ⟨b1, i * 4 + 3, none⟩ v4).ownsRow W0.heap.size t sz (.slice (some ⟨b, 0, none⟩) n c) n vs := fun v1 v2 v3 v4 hne hr =>
    own_setCell (own_setCell (own_setCell (own_setCell hr (by simpa [Value.ownBlock] using fun e => hne e.symm) _) (by simpa [Value.ownBlock] using fun e => hne e.symm) _) (by simpa [Value.ownBlock] using fun e => hne e.symm) _) (by simpa [Value.ownBlock] using fun e => hne e.symm) _
  refine ⟨?_, f _ _ _ _ a4 h.r0, ?_, f _ _ _ _ (fun e => a7 e.symm) h.r2, f _ _ _ _ (fun e => h.ne e.symm) h.r3, h.ne, h.g0, below_set (below_set (below_set (below_set h.bel h.bs.2.1) h.bs.2.1) h.bs.2.1) h.bs.2.1⟩
  · simp only [e]; exact blk_far (blk_far (blk_far (blk_far h.box (fun e => a1 e.symm) _) (fun e => a1 e.symm) _) (fun e => a1 e.symm) _) (fun e => a1 e.symm) _
  · simp only [e]; exact q4
/-- How often a place was computed. -/
theorem GM.counted (h : GM W0 g b0 b1 b2 b3 c0 c1 c2 c3 w s) (n : Int) : GM W0 g b0 b1 b2 b3 c0 c1 c2 c3 (w.setCell ⟨g, 4, none⟩ (.int .i64 n)) { s with n := n } := by
  obtain ⟨a0, a1, a2, a3, a4, a5, a6, a7, a8⟩ := h.apart
  exact ⟨blk_put h.box 4 _ rfl, own_setCell h.r0 (by simpa [Value.ownBlock] using fun e => a0 e.symm) _, own_setCell h.r1 (by simpa [Value.ownBlock] using fun e => a1 e.symm) _, own_setCell h.r2 (by simpa [Value.ownBlock] using fun e => a2 e.symm) _, own_setCell h.r3 (by simpa [Value.ownBlock] using fun e => a3 e.symm) _, h.ne, h.g0, below_set h.bel h.g0⟩
/-- To whom a thing belongs. -/
theorem GM.moved (h : GM W0 g b0 b1 b2 b3 c0 c1 c2 c3 w s) (i : Nat) (u : Int) : GM W0 g b0 b1 b2 b3 c0 c1 c2 c3 (w.setCell ⟨b0, i, none⟩ (.int .i64 u)) { s with up := s.up.set i u } := by
  obtain ⟨a0, a1, a2, a3, a4, a5, a6, a7, a8⟩ := h.apart
  have hs := (h.r0.stored i (.int .i64 u)).1
  have e : (s.up.set i u).length = s.up.length := List.length_set
  refine ⟨?_, ?_, own_setCell h.r1 (by simpa [Value.ownBlock] using a4) _, own_setCell h.r2 (by simpa [Value.ownBlock] using a5) _, own_setCell h.r3 (by simpa [Value.ownBlock] using a6) _, h.ne, h.g0, below_set h.bel h.bs.1⟩
  · simp only [e]; exact blk_far h.box (fun e => a0 e.symm) _
  · simp only [e]
    rw [List.map_set]; exact hs
end
/-- Only the scene's blocks may have changed. -/
structure K4 (g b0 b1 b2 b3 : Nat) (w w' : World) : Prop where
  size : w.heap.size ≤ w'.heap.size
  block : ∀ j, j < w.heap.size → j ≠ g → j ≠ b0 → j ≠ b1 → j ≠ b2 → j ≠ b3 → w'.heap[j]? = w.heap[j]?
theorem K4.of {g b0 b1 b2 b3 : Nat} {w w1 : World} (h : Below w.heap.size w w1) : K4 g b0 b1 b2 b3 w w1 := ⟨h.size, fun j h1 _ _ _ _ _ => h.block j h1⟩
theorem K4.below {g b0 b1 b2 b3 : Nat} {w w1 w2 : World} (k : K4 g b0 b1 b2 b3 w w1) (h : Below w1.heap.size w1 w2) : K4 g b0 b1 b2 b3 w w2 :=
  ⟨Nat.le_trans k.size h.size, fun j h1 a b c d e => (h.block j (Nat.lt_of_lt_of_le h1 k.size)).trans (k.block j h1 a b c d e)⟩
theorem K4.set {g b0 b1 b2 b3 b i : Nat} {v : Value} {w w1 : World} (k : K4 g b0 b1 b2 b3 w w1) (hb : b = g ∨ b = b0 ∨ b = b1 ∨ b = b2 ∨ b = b3) : K4 g b0 b1 b2 b3 w (w1.setCell ⟨b, i, none⟩ v) :=
  ⟨Nat.le_trans k.size (show w1.heap.size ≤ (w1.setCell ⟨b, i, none⟩ v).heap.size by simp [World.setCell]), fun j h1 a1 a2 a3 a4 a5 => (Below.heap_setCell w1 _ v j (by intro e; have e' : j = b := e; subst e'; rcases hb with e | e | e | e | e <;> contradiction)).trans (k.block j h1 a1 a2 a3 a4 a5)⟩
theorem K4.kq {g b0 b1 b2 b3 : Nat} {w w1 w2 : World} (k : K4 g b0 b1 b2 b3 w w1) (h : Kq g b2 b3 w1 w2) : K4 g b0 b1 b2 b3 w w2 :=
  ⟨Nat.le_trans k.size h.size, fun j h1 a b c d e => (h.block j (Nat.lt_of_lt_of_le h1 k.size) a d e).trans (k.block j h1 a b c d e)⟩
end Go.Proofs.Ytdopeneehminaaa.GraphMemGraphPlays
