/- New, Size and Count of scenes; places that fit; scenes with things. Under the conditions that stand at each. -/
import Derived.Test.YtdopeneehminaaaGraphRunsGraphPlays
namespace Go.Proofs.Ytdopeneehminaaa.GraphNewGraphPlays
open Go Go.RowKit Go.Proofs.YtdopeneehminaaaW.PrintWords Go.Proofs.YtdopeneehminaaaW.PrintLast Go.Proofs.YtdopeneehminaaaW.PrintMore Go.Proofs.Ytdopeneehminaaa.Fnv Go.Proofs.Ytdopeneehminaaa.PGraphPlays Go.Proofs.Ytdopeneehminaaa.GraphMemGraphPlays Go.Proofs.Ytdopeneehminaaa.GraphAtGraphPlays Go.Proofs.Ytdopeneehminaaa.GraphSetGraphPlays Go.Proofs.Ytdopeneehminaaa.GraphAddGraphPlays Go.Proofs.Ytdopeneehminaaa.NumGraphPlays Go.Proofs.Ytdopeneehminaaa.GraphRunsGraphPlays
set_option linter.unusedVariables false
set_option linter.unusedSimpArgs false
/-- What tourref5.Below returns, where it returns. -/
def belowV (a n : Int) : Int := if Int.tmod a n < 0 then wrap64 (Int.tmod a n + n) else Int.tmod a n
theorem below_f (a n : Int) (h : n ≠ 0) : tourref5_Below.f a n = some (belowV a n) := by
  unfold tourref5_Below.f belowV
  rw [if_neg h]
  split <;> rfl
theorem belowV_range (a n : Int) (h0 : 0 < n) (h1 : n ≤ 9223372036854775807) : 0 ≤ belowV a n ∧ belowV a n < n := by
  have h2 := Int.tmod_lt_of_pos a h0
  have h3 : -n < Int.tmod a n := by
    have := Int.tmod_lt_of_pos (-a) h0
    rw [Int.neg_tmod] at this
    omega
  unfold belowV
  split
  · rename_i h
    rw [show wrap64 (Int.tmod a n + n) = Int.tmod a n + n from by unfold wrap64; omega]
    omega
  · omega
/-- May a place be used? -/
def fitsV (p : Pl) : Bool := decide (p.x ≤ 65536000) && decide (-65536000 ≤ p.x) && decide (p.y ≤ 65536000) && decide (-65536000 ≤ p.y) && decide (0 ≤ p.s) && decide (p.s ≤ 1048576)
theorem fits_eq (p : Pl) (k : Nat) : graph_fits.f (k + 3) p.x p.y p.a p.s = some (fitsV p) := by
  unfold graph_fits.f fitsV
  simp only [Option.bind_some, List.length_cons, List.length_nil]
  have r0 : rd [p.x, p.y] 0 = p.x := rfl
  have r1 : rd [p.x, p.y] 1 = p.y := rfl
  have w1 : wrap64 (0 + 1) = 1 := by unfold wrap64; decide
  have w2 : wrap64 (1 + 1) = 2 := by unfold wrap64; decide
  rw [show k + 3 = k + 2 + 1 from rfl, graph_fits.l0, show k + 2 = k + 1 + 1 from rfl, graph_fits.l0, graph_fits.l0, r0, w1, r1, w2]
  by_cases a : p.x > 65536000 <;> by_cases b : p.x < -65536000 <;> by_cases c : p.y > 65536000 <;> by_cases d : p.y < -65536000 <;> by_cases e : p.s ≥ 0 <;> by_cases f : p.s ≤ 1048576 <;> simp [a, b, c, d, e, f] <;> omega
set_option maxHeartbeats 8000000 in
set_option maxRecDepth 100000 in
theorem New_in (w : World) : Calls Try.prog 29 #[] w fun e w' => ∃ g : Nat, e = .returned (.pointer (some ⟨g, 0, none⟩)) ∧ w'.heap[g]? = some (.cells #[.slice none 0 0, .slice none 0 0, .slice none 0 0, .slice none 0 0, .int .i64 0] tG (0, 0)) ∧ w.heap.size ≤ g ∧ Below w.heap.size w w' := by
  have hu80 := Try.underlying80
  go_enter Try.func29, Try.ntmps29
  go_wp2_with (first | ((with_reducible refine gate_dst (N := 2) rfl ?_); refine box_event ?hg (N := 2) ?hd (cs := #[.slice none 0 0, .slice none 0 0, .slice none 0 0, .slice none 0 0, .int .i64 0]) (t := tG) ?hr ?_; (case hd => rfl); (case hg => rfl); (case hr => first | (go_simp; done) | (go_simp; rfl)); intro g hg w1 hbox hb; have H := Aside0.mk (And.intro hbox (And.intro (Nat.le_of_eq hg.symm) hb)); clear hg hbox hb))
  go_ret
  exact ⟨_, rfl, H.out⟩
set_option maxHeartbeats 8000000 in
set_option maxRecDepth 100000 in
theorem Size_in (w : World) (g n c : Nat) (A : Option Addr) (h : w.cell? ⟨g, 0, none⟩ = some (.slice A n c)) : Calls Try.prog 33 #[.pointer (some ⟨g, 0, none⟩)] w fun e w' => e = .returned (.int .i64 n) ∧ w' = w := by
  have hu80 := Try.underlying80
  go_enter Try.func33, Try.ntmps33
  go_wp2
  go_ret
  exact ⟨rfl, rfl⟩
set_option maxHeartbeats 8000000 in
set_option maxRecDepth 100000 in
theorem Count_in (w : World) (g : Nat) (n : Int) (h : w.cell? ⟨g, 4, none⟩ = some (.int .i64 n)) : Calls Try.prog 34 #[.pointer (some ⟨g, 0, none⟩)] w fun e w' => e = .returned (.int .i64 n) ∧ w' = w := by
  have hu80 := Try.underlying80
  go_enter Try.func34, Try.ntmps34
  go_wp2
  go_ret
  exact ⟨rfl, rfl⟩
/-- The empty rows of a scene. -/
theorem RW.nil (W0 w : World) (h : Below W0.heap.size W0 w) : RW W0 (.slice none 0 0) (.slice none 0 0) (.slice none 0 0) (.slice none 0 0) w [] [] [] [] :=
  ⟨own_nil _ _ _ _, own_nil _ _ _ _, own_nil _ _ _ _, own_nil _ _ _ _, fun k hk => by simp [Value.ownBlock] at hk, h⟩
theorem own_head {w : World} {B e sz n : Nat} {v : Value} {xs : List Value} (h : w.ownsRow B e sz v n xs) (hn : 0 < n) : ∃ b c, v = .slice (some ⟨b, 0, none⟩) n c := by
  rcases h.2 with ⟨_, h0⟩ | ⟨b, c, cur, hv, _⟩
  · omega
  · exact ⟨b, c, hv⟩
/-- A scene that has things. -/
theorem RW.open {W0 w : World} {v0 v1 v2 v3 : Value} {up : List Int} {own : List Pl} {kn : List Bool} {wh : List Pl} (h : RW W0 v0 v1 v2 v3 w up own kn wh) {g : Nat} {n : Int} (hB : w.heap[g]? = some (.cells #[v0, v1, v2, v3, .int .i64 n] tG (0, 0))) (hg : W0.heap.size ≤ g)
    (h0 : 0 < up.length) (h1 : own.length = up.length) (h2 : kn.length = up.length) (h3 : wh.length = up.length) : ∃ b0 b1 b2 b3 c0 c1 c2 c3, GM W0 g b0 b1 b2 b3 c0 c1 c2 c3 w ⟨up, own, kn, wh, n⟩ := by
  obtain ⟨b0, c0, rfl⟩ := own_head h.r0 h0
  obtain ⟨b1, c1, rfl⟩ := own_head h.r1 (by omega)
  obtain ⟨b2, c2, rfl⟩ := own_head h.r2 (by omega)
  obtain ⟨b3, c3, rfl⟩ := own_head h.r3 (by omega)
  refine ⟨b0, b1, b2, b3, c0, c1, c2, c3, hB, h.r0, h.r1, h.r2, h.r3, ?_, hg, h.bel⟩
  intro e; subst e; exact h.ne b1 rfl rfl
/-- A block that is none of the rows'. -/
def Off (W0 : World) (v0 v1 v2 v3 : Value) (x : Nat) : Prop := W0.heap.size ≤ x ∧ v0.ownBlock ≠ some x ∧ v1.ownBlock ≠ some x ∧ v2.ownBlock ≠ some x ∧ v3.ownBlock ≠ some x
theorem RW.away {W0 w : World} {v0 v1 v2 v3 : Value} {up : List Int} {own : List Pl} {kn : List Bool} {wh : List Pl} (h : RW W0 v0 v1 v2 v3 w up own kn wh) {x : Nat} (hx : w.heap.size ≤ x) : Off W0 v0 v1 v2 v3 x :=
  ⟨Nat.le_trans h.bel.size hx, fun e => by have := own_lt h.r0 x e; omega, fun e => by have := own_lt h.r1 x e; omega, fun e => by have := own_lt h.r2 x e; omega, fun e => by have := own_lt h.r3 x e; omega⟩
theorem RW.off {W0 w : World} {v0 v1 v2 v3 : Value} {up : List Int} {own : List Pl} {kn : List Bool} {wh : List Pl} (h : RW W0 v0 v1 v2 v3 w up own kn wh) {x : Nat} (o : Off W0 v0 v1 v2 v3 x) (i : Nat) (u : Value) : RW W0 v0 v1 v2 v3 (w.setCell ⟨x, i, none⟩ u) up own kn wh :=
  ⟨own_setCell h.r0 (fun e => o.2.1 e.symm) _, own_setCell h.r1 (fun e => o.2.2.1 e.symm) _, own_setCell h.r2 (fun e => o.2.2.2.1 e.symm) _, own_setCell h.r3 (fun e => o.2.2.2.2 e.symm) _, h.ne, below_set h.bel o.1⟩
/-- A place of a list that the caller laid. -/
def plS (s : S52) : Pl := ⟨s.f0.f0, s.f0.f1, s.f1, s.f2⟩
end Go.Proofs.Ytdopeneehminaaa.GraphNewGraphPlays
