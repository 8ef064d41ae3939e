/- A scene and the nodes of the second implementation, in memory side by side. Under the conditions that stand at each. -/
import Derived.Test.YtdopeneehminaaaGraphWhereGraphPlays
namespace Go.Proofs.Ytdopeneehminaaa.GraphPSGraphPlays
open Go Go.RowKit Go.Proofs.YtdopeneehminaaaW.PrintWords Go.Proofs.YtdopeneehminaaaW.PrintLast Go.Proofs.YtdopeneehminaaaW.PrintMore Go.Proofs.Ytdopeneehminaaa.Fnv Go.Proofs.Ytdopeneehminaaa.PGraphPlays Go.Proofs.Ytdopeneehminaaa.GraphMemGraphPlays Go.Proofs.Ytdopeneehminaaa.GraphAtGraphPlays Go.Proofs.Ytdopeneehminaaa.GraphSetGraphPlays Go.Proofs.Ytdopeneehminaaa.GraphAddGraphPlays Go.Proofs.Ytdopeneehminaaa.NumGraphPlays Go.Proofs.Ytdopeneehminaaa.GraphWiGraphPlays Go.Proofs.Ytdopeneehminaaa.GraphRunsGraphPlays Go.Proofs.Ytdopeneehminaaa.GraphNewGraphPlays Go.Proofs.Ytdopeneehminaaa.GraphTwoGraphPlays Go.Proofs.Ytdopeneehminaaa.GraphMoveGraphPlays Go.Proofs.Ytdopeneehminaaa.GraphWhereGraphPlays
set_option linter.unusedVariables false
theorem own_same {w w' : World} {base : Nat} {e : TypeId} {size n : Nat} {v : Value} {xs : List Value} (h : w.ownsRow base e size v n xs) (hk : ∀ b, v.ownBlock = some b → w'.heap[b]? = w.heap[b]?) : w'.ownsRow base e size v n xs := by
  obtain ⟨h1, h2⟩ := h
  refine ⟨h1, ?_⟩
  rcases h2 with h2 | ⟨g, cap, cur, rfl, hg, hh, r⟩
  · exact .inl h2
  · exact .inr ⟨g, cap, cur, rfl, hg, (hk g rfl).trans hh, r⟩
theorem ne_some {w : World} {b b' : Nat} {e e' : TypeId} {s s' n n' : Nat} {v v' : Value} {xs xs' : List Value} (h : w.ownsRow b e s v n xs) (h' : w.ownsRow b' e' s' v' n' xs') (hne : e ≠ e') {x : Nat} (hx : v'.ownBlock = some x) : v.ownBlock ≠ some x := by
  rcases own_type_ne h h' hne with e | e
  · rw [e]; exact fun h => by cases h
  · rw [← hx]; exact e
theorem ne_back {v v' : Value} (h : NeRow v v') (x : Nat) (hx : v'.ownBlock = some x) : v.ownBlock ≠ some x := fun e => h x e hx
/-- The scene s, the nodes nu, no. -/
structure PS (W w : World) (g m : Nat) (v0 v1 v2 v3 vu vo : Value) (s : GS) (nu : List Int) (no : List Pl) : Prop where
  box : w.heap[g]? = some (.cells #[v0, v1, v2, v3, .int .i64 s.n] tG (0, 0))
  hg : W.heap.size ≤ g
  rw : RW W v0 v1 v2 v3 w s.up s.own s.kn s.wh
  mbox : w.heap[m]? = some (.cells #[vu, vo] tN (0, 0))
  hm : W.heap.size ≤ m
  lu : w.ownsRow W.heap.size 3 1 vu nu.length (nu.map (Value.int .i64))
  lo : w.ownsRow W.heap.size tP 4 vo no.length (flat no)
  n0 : NeRow v0 vu
  n1 : NeRow v1 vo
  n3 : NeRow v3 vo
/-- As PS, without the nodes' box. -/
structure PR (W w : World) (g : Nat) (v0 v1 v2 v3 vu vo : Value) (s : GS) (nu : List Int) (no : List Pl) : Prop where
  box : w.heap[g]? = some (.cells #[v0, v1, v2, v3, .int .i64 s.n] tG (0, 0))
  hg : W.heap.size ≤ g
  rw : RW W v0 v1 v2 v3 w s.up s.own s.kn s.wh
  lu : w.ownsRow W.heap.size 3 1 vu nu.length (nu.map (Value.int .i64))
  lo : w.ownsRow W.heap.size tP 4 vo no.length (flat no)
  n0 : NeRow v0 vu
  n1 : NeRow v1 vo
  n3 : NeRow v3 vo
/-- A block that is none of theirs. -/
structure OffP (W : World) (g m : Nat) (v0 v1 v2 v3 vu vo : Value) (x : Nat) : Prop where
  b : W.heap.size ≤ x
  g : x ≠ g
  m : x ≠ m
  n0 : v0.ownBlock ≠ some x
  n1 : v1.ownBlock ≠ some x
  n2 : v2.ownBlock ≠ some x
  n3 : v3.ownBlock ≠ some x
  nu : vu.ownBlock ≠ some x
  no : vo.ownBlock ≠ some x
section
variable {W w w1 : World} {g m : Nat} {v0 v1 v2 v3 vu vo v' : Value} {s : GS} {nu : List Int} {no : List Pl}
theorem PS.gm (h : PS W w g m v0 v1 v2 v3 vu vo s nu no) : g ≠ m := fun e => by
  have h1 := h.box
  rw [e, h.mbox] at h1
  injection h1 with h1; injection h1 with _ h1; exact absurd h1 (by decide)
theorem PS.below (h : PS W w g m v0 v1 v2 v3 vu vo s nu no) (hb : Below w.heap.size w w1) : PS W w1 g m v0 v1 v2 v3 vu vo s nu no :=
  ⟨blk_below h.box hb, h.hg, h.rw.below hb, blk_below h.mbox hb, h.hm, pw_own_below h.lu hb, pw_own_below h.lo hb, h.n0, h.n1, h.n3⟩
theorem PS.drew (h : PS W w g m v0 v1 v2 v3 vu vo s nu no) : PS W w.drew g m v0 v1 v2 v3 vu vo s nu no := h.below (Below.refl _ _).drew
theorem PS.away (h : PS W w g m v0 v1 v2 v3 vu vo s nu no) {x : Nat} (hx : w.heap.size ≤ x) : OffP W g m v0 v1 v2 v3 vu vo x :=
  ⟨Nat.le_trans h.rw.bel.size hx, fun e => by have := blk_lt h.box; omega, fun e => by have := blk_lt h.mbox; omega, fun e => by have := own_lt h.rw.r0 x e; omega, fun e => by have := own_lt h.rw.r1 x e; omega, fun e => by have := own_lt h.rw.r2 x e; omega, fun e => by have := own_lt h.rw.r3 x e; omega, fun e => by have := own_lt h.lu x e; omega, fun e => by have := own_lt h.lo x e; omega⟩
theorem PS.off (h : PS W w g m v0 v1 v2 v3 vu vo s nu no) {x : Nat} (o : OffP W g m v0 v1 v2 v3 vu vo x) (i : Nat) (u : Value) : PS W (w.setCell ⟨x, i, none⟩ u) g m v0 v1 v2 v3 vu vo s nu no :=
  ⟨blk_far h.box (fun e => o.g e.symm) _, h.hg, RW.off h.rw ⟨o.b, o.n0, o.n1, o.n2, o.n3⟩ i u, blk_far h.mbox (fun e => o.m e.symm) _, h.hm, own_setCell h.lu (fun e => o.nu e.symm) _, own_setCell h.lo (fun e => o.no e.symm) _, h.n0, h.n1, h.n3⟩
/-- A store into the nodes' first row. -/
theorem PS.putu {x c : Nat} (h : PS W w g m v0 v1 v2 v3 (.slice (some ⟨x, 0, none⟩) nu.length c) vo s nu no) (i : Nat) (u : Int) : PS W (w.setCell ⟨x, i, none⟩ (.int .i64 u)) g m v0 v1 v2 v3 (.slice (some ⟨x, 0, none⟩) nu.length c) vo s (nu.set i u) no := by
  have e : Value.ownBlock (.slice (some ⟨x, 0, none⟩) nu.length c) = some x := rfl
  have hx : W.heap.size ≤ x := own_base h.lu x e
  have hs := (h.lu.stored i (.int .i64 u)).1
  refine ⟨blk_far h.box (fun e' => own_ne h.lu h.box (by decide) (by rw [e]; exact congrArg some e')) _, h.hg, RW.off h.rw ⟨hx, ne_back h.n0 x e, ne_some h.rw.r1 h.lu (by decide) e, ne_some h.rw.r2 h.lu (by decide) e, ne_some h.rw.r3 h.lu (by decide) e⟩ i _, blk_far h.mbox (fun e' => own_ne h.lu h.mbox (by decide) (by rw [e]; exact congrArg some e')) _, h.hm, ?_, own_setCell h.lo (fun e' => ne_some h.lo h.lu (by decide) e e'.symm) _, h.n0, h.n1, h.n3⟩
  rw [List.length_set, List.map_set]; exact hs
/-- A store into the nodes' second row. -/
theorem PS.puto {x c : Nat} (h : PS W w g m v0 v1 v2 v3 vu (.slice (some ⟨x, 0, none⟩) no.length c) s nu no) (i : Nat) (p : Pl) : PS W ((((w.setCell ⟨x, i * 4, none⟩ (.int .i64 p.x)).setCell ⟨x, i * 4 + 1, none⟩ (.int .i64 p.y)).setCell ⟨x, i * 4 + 2, none⟩ (.int .i64 p.a)).setCell ⟨x, i * 4 + 3, none⟩ (.int .i64 p.s)) g m v0 v1 v2 v3 vu (.slice (some ⟨x, 0, none⟩) no.length c) s nu (no.set i p) := by
  have e : Value.ownBlock (.slice (some ⟨x, 0, none⟩) no.length c) = some x := rfl
  have hx : W.heap.size ≤ x := own_base h.lo x e
  have q1 := (h.lo.stored (i * 4) (.int .i64 p.x)).1
  have q2 := (q1.stored (i * 4 + 1) (.int .i64 p.y)).1
  have q3 := (q2.stored (i * 4 + 2) (.int .i64 p.a)).1
  have q4 := (q3.stored (i * 4 + 3) (.int .i64 p.s)).1
  rw [flat_set] at q4
  have og : g ≠ x := fun e' => own_ne h.lo h.box (by decide) (by rw [e, ← e'])
  have om : m ≠ x := fun e' => own_ne h.lo h.mbox (by decide) (by rw [e, ← e'])
  have o : Off W v0 v1 v2 v3 x := ⟨hx, ne_some h.rw.r0 h.lo (by decide) e, ne_back h.n1 x e, ne_some h.rw.r2 h.lo (by decide) e, ne_back h.n3 x e⟩
  have ou : some x ≠ vu.ownBlock := fun e' => ne_some h.lu h.lo (by decide) e e'.symm
  exact ⟨blk_far (blk_far (blk_far (blk_far h.box og _) og _) og _) og _, h.hg, RW.off (RW.off (RW.off (RW.off h.rw o _ _) o _ _) o _ _) o _ _, blk_far (blk_far (blk_far (blk_far h.mbox om _) om _) om _) om _, h.hm,
    own_setCell (own_setCell (own_setCell (own_setCell h.lu ou _) ou _) ou _) ou _, by rw [List.length_set]; exact q4, h.n0, h.n1, h.n3⟩
theorem PS.pr (h : PS W w g m v0 v1 v2 v3 vu vo s nu no) : PR W w g v0 v1 v2 v3 vu vo s nu no := ⟨h.box, h.hg, h.rw, h.lu, h.lo, h.n0, h.n1, h.n3⟩
theorem PR.ps (h : PR W w g v0 v1 v2 v3 vu vo s nu no) (hb : w.heap[m]? = some (.cells #[vu, vo] tN (0, 0))) (hm : W.heap.size ≤ m) : PS W w g m v0 v1 v2 v3 vu vo s nu no := ⟨h.box, h.hg, h.rw, hb, hm, h.lu, h.lo, h.n0, h.n1, h.n3⟩
theorem PR.below (h : PR W w g v0 v1 v2 v3 vu vo s nu no) (hb : Below w.heap.size w w1) : PR W w1 g v0 v1 v2 v3 vu vo s nu no :=
  ⟨blk_below h.box hb, h.hg, h.rw.below hb, pw_own_below h.lu hb, pw_own_below h.lo hb, h.n0, h.n1, h.n3⟩
theorem PR.appu (h : PR W w g v0 v1 v2 v3 vu vo s nu no) (u : Int) (hown : w1.ownsRow W.heap.size 3 1 v' (nu.length + 1) (nu.map (Value.int .i64) ++ [.int .i64 u])) (hg : w.grownBy w1 vu.ownBlock) (hat : v'.ownBlock = vu.ownBlock ∨ ∃ b, v'.ownBlock = some b ∧ w.heap.size ≤ b) : PR W w1 g v0 v1 v2 v3 v' vo s (nu ++ [u]) no :=
  ⟨blk_grown h.box hg (own_ne h.lu h.box (by decide)), h.hg, ⟨own_other h.rw.r0 hg (ne_other (ne_symm h.n0)), own_other h.rw.r1 hg (own_type_ne h.rw.r1 h.lu (by decide)), own_other h.rw.r2 hg (own_type_ne h.rw.r2 h.lu (by decide)), own_other h.rw.r3 hg (own_type_ne h.rw.r3 h.lu (by decide)), h.rw.ne, h.rw.bel.grown hg h.rw.bel.size (own_base h.lu)⟩,
    by simpa using hown, own_other h.lo hg (own_type_ne h.lo h.lu (by decide)), ne_append' h.n0 hat h.rw.r0, h.n1, h.n3⟩
theorem PR.appo (h : PR W w g v0 v1 v2 v3 vu vo s nu no) (p : Pl) (hown : w1.ownsRow W.heap.size tP 4 v' (no.length + 1) (flat no ++ [.int .i64 p.x, .int .i64 p.y, .int .i64 p.a, .int .i64 p.s])) (hg : w.grownBy w1 vo.ownBlock) (hat : v'.ownBlock = vo.ownBlock ∨ ∃ b, v'.ownBlock = some b ∧ w.heap.size ≤ b) : PR W w1 g v0 v1 v2 v3 vu v' s nu (no ++ [p]) :=
  ⟨blk_grown h.box hg (own_ne h.lo h.box (by decide)), h.hg, ⟨own_other h.rw.r0 hg (own_type_ne h.rw.r0 h.lo (by decide)), own_other h.rw.r1 hg (ne_other (ne_symm h.n1)), own_other h.rw.r2 hg (own_type_ne h.rw.r2 h.lo (by decide)), own_other h.rw.r3 hg (ne_other (ne_symm h.n3)), h.rw.ne, h.rw.bel.grown hg h.rw.bel.size (own_base h.lo)⟩,
    own_other h.lu hg (own_type_ne h.lu h.lo (by decide)), by rw [flat_append, List.length_append]; simpa [flat] using hown, h.n0, ne_append' h.n1 hat h.rw.r1, ne_append' h.n3 hat h.rw.r3⟩
/-- A store into the nodes' box. -/
theorem PR.far (h : PR W w g v0 v1 v2 v3 vu vo s nu no) {i : Nat} {cs : Array Value} (hb : w.heap[m]? = some (.cells cs tN (0, 0))) (hm : W.heap.size ≤ m) (v : Value) : PR W (w.setCell ⟨m, i, none⟩ v) g v0 v1 v2 v3 vu vo s nu no :=
  ⟨blk_far h.box (fun e => by
      have h1 := h.box
      have e : g = m := e
      rw [e, hb] at h1
      injection h1 with h1; injection h1 with _ h1; exact absurd h1 (by decide)) _, h.hg, h.rw.far hb (by decide) (by decide) (by decide) hm v, own_setCell h.lu (own_ne h.lu hb (by decide)) _, own_setCell h.lo (own_ne h.lo hb (by decide)) _, h.n0, h.n1, h.n3⟩
theorem PS.nd {A0 A1 : Option Addr} {k0 k1 c0 c1 : Nat} (h : PS W w g m v0 v1 v2 v3 (.slice A0 k0 c0) (.slice A1 k1 c1) s nu no) : ND w A0 A1 nu no := by
  refine ⟨fun i hi => ?_, fun i hi => ?_⟩
  · obtain ⟨b, c, e⟩ := own_head h.lu (by omega)
    have hlu := h.lu
    injection e with e1 e2 e3
    subst e1 e2 e3
    exact ⟨b, rfl, (row_at hlu (show (nu.map (Value.int .i64))[i]? = some (.int .i64 (rd nu i)) from by unfold rd; rw [Int.toNat_natCast, List.getElem?_map, List.getElem?_eq_getElem hi]; simp [List.getD_eq_getElem?_getD, List.getElem?_eq_getElem hi])).1⟩
  · obtain ⟨b, c, e⟩ := own_head h.lo (by omega)
    have hlo := h.lo
    injection e with e1 e2 e3
    subst e1 e2 e3
    obtain ⟨x0, x1, x2, x3⟩ := flat_at no i hi
    exact ⟨b, rfl, (row_at hlo x0).1, (row_at hlo x1).1, (row_at hlo x2).1, (row_at hlo x3).1⟩
/-- The scene's methods leave the nodes as they are. -/
theorem PS.keep (h : PS W w g m v0 v1 v2 v3 vu vo s nu no) (hk : ∀ x, x < w.heap.size → x ≠ g → v0.ownBlock ≠ some x → v1.ownBlock ≠ some x → v2.ownBlock ≠ some x → v3.ownBlock ≠ some x → w1.heap[x]? = w.heap[x]?) :
    w1.heap[m]? = some (.cells #[vu, vo] tN (0, 0)) ∧ w1.ownsRow W.heap.size 3 1 vu nu.length (nu.map (Value.int .i64)) ∧ w1.ownsRow W.heap.size tP 4 vo no.length (flat no) := by
  refine ⟨(hk m (blk_lt h.mbox) (fun e => h.gm e.symm) ?_ ?_ ?_ ?_).trans h.mbox, own_same h.lu fun x hx => hk x (own_lt h.lu x hx) (fun e => own_ne h.lu h.box (by decide) (by rw [hx, e])) (ne_back h.n0 x hx) (ne_some h.rw.r1 h.lu (by decide) hx) (ne_some h.rw.r2 h.lu (by decide) hx) (ne_some h.rw.r3 h.lu (by decide) hx),
    own_same h.lo fun x hx => hk x (own_lt h.lo x hx) (fun e => own_ne h.lo h.box (by decide) (by rw [hx, e])) (ne_some h.rw.r0 h.lo (by decide) hx) (ne_back h.n1 x hx) (ne_some h.rw.r2 h.lo (by decide) hx) (ne_back h.n3 x hx)⟩
  · exact fun e => own_ne h.rw.r0 h.mbox (by decide) e.symm
  · exact fun e => own_ne h.rw.r1 h.mbox (by decide) e.symm
  · exact fun e => own_ne h.rw.r2 h.mbox (by decide) e.symm
  · exact fun e => own_ne h.rw.r3 h.mbox (by decide) e.symm
theorem Add_ps (h : PS W w g m v0 v1 v2 v3 vu vo s nu no) (k : Nat) (u : Int) (p : Pl) (hl : s.up.length < 100) (h1 : s.own.length = s.up.length) (h2 : s.kn.length = s.up.length) (h3 : s.wh.length = s.up.length) (hu0 : -1 ≤ u) (hu1 : u < s.up.length) (hfit : graph_fits.f k p.x p.y p.a p.s = some true) :
    Calls Try.prog 31 #[.pointer (some ⟨g, 0, none⟩), .int .i64 u, .agg #[.int .i64 p.x, .int .i64 p.y, .int .i64 p.a, .int .i64 p.s]] w fun e w' => e = .returned (.tuple #[.int .i64 s.up.length, .int .i64 0]) ∧ ∃ v0' v1' v2' v3' : Value, PS W w' g m v0' v1' v2' v3' vu vo ⟨s.up ++ [u], s.own ++ [p], s.kn ++ [false], s.wh ++ [pl0], s.n⟩ nu no := by
  refine (Add_x k s.up s.own s.kn s.wh s.n u p hl h1 h2 h3 hu0 hu1 hfit w h.box h.hg (fun hE => hE.2.1 rfl) h.rw.whole).mono fun e w' ⟨he, a, b, c, d, hB, hR⟩ => ?_
  obtain ⟨k1, k2, k3⟩ := h.keep (w1 := w') (fun x a1 a2 a3 a4 a5 a6 => (hR.kp x ⟨a1, a2, a3, a4, a5, a6⟩).2)
  refine ⟨he, a, b, c, d, hB, h.hg, hR.rw, k1, h.hm, k2, k3, fun x hx hx' => ?_, fun x hx hx' => ?_, fun x hx hx' => ?_⟩
  · exact hR.n0 x ⟨own_lt h.lu x hx', fun e => own_ne h.lu h.box (by decide) (by rw [hx', e]), ne_back h.n0 x hx', ne_some h.rw.r1 h.lu (by decide) hx', ne_some h.rw.r2 h.lu (by decide) hx', ne_some h.rw.r3 h.lu (by decide) hx'⟩ hx
  · exact hR.n1 x ⟨own_lt h.lo x hx', fun e => own_ne h.lo h.box (by decide) (by rw [hx', e]), ne_some h.rw.r0 h.lo (by decide) hx', ne_back h.n1 x hx', ne_some h.rw.r2 h.lo (by decide) hx', ne_back h.n3 x hx'⟩ hx
  · exact hR.n3 x ⟨own_lt h.lo x hx', fun e => own_ne h.lo h.box (by decide) (by rw [hx', e]), ne_some h.rw.r0 h.lo (by decide) hx', ne_back h.n1 x hx', ne_some h.rw.r2 h.lo (by decide) hx', ne_back h.n3 x hx'⟩ hx
/-- A scene with things, opened and shut. -/
theorem PS.open (h : PS W w g m v0 v1 v2 v3 vu vo s nu no) (h0 : 0 < s.up.length) (h1 : s.own.length = s.up.length) (h2 : s.kn.length = s.up.length) (h3 : s.wh.length = s.up.length) :
    ∃ b0 b1 b2 b3 c0 c1 c2 c3, GM W g b0 b1 b2 b3 c0 c1 c2 c3 w s ∧ v0.ownBlock = some b0 ∧ v1.ownBlock = some b1 ∧ v2.ownBlock = some b2 ∧ v3.ownBlock = some b3 := by
  obtain ⟨b0, b1, b2, b3, c0, c1, c2, c3, M⟩ := RW.open h.rw h.box h.hg h0 h1 h2 h3
  have e := M.box
  rw [h.box] at e
  injection e with e; injection e with e
  have e' := congrArg Array.toList e
  simp only [List.cons.injEq] at e'
  obtain ⟨rfl, rfl, rfl, rfl, _⟩ := e'
  exact ⟨b0, b1, b2, b3, c0, c1, c2, c3, M, rfl, rfl, rfl, rfl⟩
theorem PS.shut (h : PS W w g m v0 v1 v2 v3 vu vo s nu no) {b0 b1 b2 b3 c0 c1 c2 c3 : Nat} {s' : GS} (M : GM W g b0 b1 b2 b3 c0 c1 c2 c3 w1 s') (e0 : v0.ownBlock = some b0) (e1 : v1.ownBlock = some b1) (e2 : v2.ownBlock = some b2) (e3 : v3.ownBlock = some b3)
    (K : ∀ j, j < w.heap.size → j ≠ g → j ≠ b0 → j ≠ b1 → j ≠ b2 → j ≠ b3 → w1.heap[j]? = w.heap[j]?) : ∃ v0' v1' v2' v3', PS W w1 g m v0' v1' v2' v3' vu vo s' nu no := by
  obtain ⟨k1, k2, k3⟩ := h.keep (w1 := w1) (fun x a1 a2 a3 a4 a5 a6 => K x a1 a2 (fun e => a3 (e ▸ e0)) (fun e => a4 (e ▸ e1)) (fun e => a5 (e ▸ e2)) (fun e => a6 (e ▸ e3)))
  refine ⟨_, _, _, _, M.box, M.g0, ⟨M.r0, M.r1, M.r2, M.r3, ?_, M.bel⟩, k1, h.hm, k2, k3, ?_, ?_, ?_⟩
  · intro x hx hx'
    have a : b1 = x := by simpa [Value.ownBlock] using hx
    have b : b3 = x := by simpa [Value.ownBlock] using hx'
    exact M.ne (a.trans b.symm)
  · intro x hx; exact h.n0 x (by rw [e0]; simpa [Value.ownBlock] using hx)
  · intro x hx; exact h.n1 x (by rw [e1]; simpa [Value.ownBlock] using hx)
  · intro x hx; exact h.n3 x (by rw [e3]; simpa [Value.ownBlock] using hx)
theorem At_ps (h : PS W w g m v0 v1 v2 v3 vu vo s nu no) (k i : Nat) (p : Pl) (s' : GS) (hi : i < s.up.length) (h1 : s.own.length = s.up.length) (h2 : s.kn.length = s.up.length) (h3 : s.wh.length = s.up.length) (hf : atF k s i = some (p, s')) :
    Calls Try.prog 32 #[.pointer (some ⟨g, 0, none⟩), .int .i64 i] w fun e w' => e = .returned (.tuple #[.agg #[.int .i64 p.x, .int .i64 p.y, .int .i64 p.a, .int .i64 p.s], .int .i64 0]) ∧ ∃ v0' v1' v2' v3' : Value, PS W w' g m v0' v1' v2' v3' vu vo s' nu no := by
  obtain ⟨b0, b1, b2, b3, c0, c1, c2, c3, M, e0, e1, e2, e3⟩ := h.open (by omega) h1 h2 h3
  exact (At_in k _ i p s' hi hf w M).mono fun e w' ⟨he, M', K⟩ => ⟨he, h.shut M' e0 e1 e2 e3 fun j a1 a2 a3 a4 a5 a6 => K.block j a1 a2 a5 a6⟩
theorem Set_ps (h : PS W w g m v0 v1 v2 v3 vu vo s nu no) (k i : Nat) (p : Pl) (s' : GS) (hi : i < s.up.length) (h1 : s.own.length = s.up.length) (h2 : s.kn.length = s.up.length) (h3 : s.wh.length = s.up.length) (hfit : graph_fits.f k p.x p.y p.a p.s = some true) (hf : forgetF k { s with own := s.own.set i p } i = some s') :
    Calls Try.prog 35 #[.pointer (some ⟨g, 0, none⟩), .int .i64 i, .agg #[.int .i64 p.x, .int .i64 p.y, .int .i64 p.a, .int .i64 p.s]] w fun e w' => e = .returned (.int .i64 0) ∧ ∃ v0' v1' v2' v3' : Value, PS W w' g m v0' v1' v2' v3' vu vo s' nu no := by
  obtain ⟨b0, b1, b2, b3, c0, c1, c2, c3, M, e0, e1, e2, e3⟩ := h.open (by omega) h1 h2 h3
  exact (Set_in k _ i p s' hi (by omega) hfit hf w M).mono fun e w' ⟨he, M', _, K⟩ => ⟨he, h.shut M' e0 e1 e2 e3 K.block⟩
theorem Move_ps {V : Nat → Pl} {r : Nat → Nat} (h : PS W w g m v0 v1 v2 v3 vu vo s nu no) (hs : Sane V r s) (k i : Nat) (u : Int) (s' : GS) (hi : i < s.up.length) (hu0 : -1 ≤ u) (hu1 : u < s.up.length) (ha : ¬ AncI s.up i u) (hf : forgetF k { s with up := s.up.set i u } i = some s') :
    Calls Try.prog 56 #[.pointer (some ⟨g, 0, none⟩), .int .i64 i, .int .i64 u] w fun e w' => e = .returned (.int .i64 0) ∧ ∃ v0' v1' v2' v3' : Value, PS W w' g m v0' v1' v2' v3' vu vo s' nu no := by
  obtain ⟨b0, b1, b2, b3, c0, c1, c2, c3, M, e0, e1, e2, e3⟩ := h.open (by omega) hs.l1 hs.l2 hs.l3
  exact (Move_in k s hs i u s' hi hu0 hu1 ha hf w M).mono fun e w' ⟨he, M', K⟩ => ⟨he, h.shut M' e0 e1 e2 e3 K.block⟩
theorem Loop_ps {V : Nat → Pl} {r : Nat → Nat} (h : PS W w g m v0 v1 v2 v3 vu vo s nu no) (hs : Sane V r s) (i : Nat) (u : Int) (hi : i < s.up.length) (hu1 : u < s.up.length) (ha : AncI s.up i u) :
    Calls Try.prog 56 #[.pointer (some ⟨g, 0, none⟩), .int .i64 i, .int .i64 u] w fun e w' => e = .returned (.int .i64 11) ∧ w' = w := by
  obtain ⟨b0, b1, b2, b3, c0, c1, c2, c3, M, e0, e1, e2, e3⟩ := h.open (by omega) hs.l1 hs.l2 hs.l3
  exact Move_loop s hs i u hi hu1 ha w M
theorem PS.size (h : PS W w g m v0 v1 v2 v3 vu vo s nu no) : ∃ A c, w.cell? ⟨g, 0, none⟩ = some (.slice A s.up.length c) := by
  obtain ⟨A, c, rfl⟩ := own_slice h.rw.r0
  exact ⟨A, c, (blk_cell h.box 0).trans rfl⟩
end
end Go.Proofs.Ytdopeneehminaaa.GraphPSGraphPlays
