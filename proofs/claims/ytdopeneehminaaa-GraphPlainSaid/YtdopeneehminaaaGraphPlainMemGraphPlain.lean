/- A scene in memory beside two rows of a law's own. Under the conditions that stand at each. -/
import Derived.Test.YtdopeneehminaaaGraphPlainLawGraphPlain
namespace Go.Proofs.Ytdopeneehminaaa.GraphPlainMemGraphPlain
open Go Go.RowKit Go.Proofs.YtdopeneehminaaaW.PrintWords Go.Proofs.YtdopeneehminaaaW.PrintLast Go.Proofs.YtdopeneehminaaaW.PrintMore Go.Proofs.Ytdopeneehminaaa.Fnv Go.Proofs.Ytdopeneehminaaa.PGraphPlain Go.Proofs.Ytdopeneehminaaa.GraphMemGraphPlain Go.Proofs.Ytdopeneehminaaa.GraphAtGraphPlain Go.Proofs.Ytdopeneehminaaa.GraphSetGraphPlain Go.Proofs.Ytdopeneehminaaa.GraphAddGraphPlain Go.Proofs.Ytdopeneehminaaa.NumGraphPlain Go.Proofs.Ytdopeneehminaaa.GraphWiGraphPlain Go.Proofs.Ytdopeneehminaaa.GraphRunsGraphPlain Go.Proofs.Ytdopeneehminaaa.GraphNewGraphPlain Go.Proofs.Ytdopeneehminaaa.GraphPlainLawGraphPlain
set_option linter.unusedVariables false
abbrev tV : TypeId := 27
def flat2 : List Two → List Value
  | [] => []
  | p :: l => .int .i64 p.1 :: .int .i64 p.2 :: flat2 l
theorem flat2_append : ∀ l m : List Two, flat2 (l ++ m) = flat2 l ++ flat2 m
  | [], m => rfl
  | p :: l, m => by simp only [flat2, List.cons_append, flat2_append l m]
theorem flat2_at : ∀ (l : List Two) (i : Nat), i < l.length → (flat2 l)[i * 2]? = some (.int .i64 (twoAt l i).1) ∧ (flat2 l)[i * 2 + 1]? = some (.int .i64 (twoAt l i).2)
  | [], _, h => by simp at h
  | p :: l, 0, _ => ⟨rfl, rfl⟩
  | p :: l, i + 1, h => by
    have := flat2_at l i (by simpa using h)
    rw [show (i + 1) * 2 = i * 2 + 1 + 1 by omega]
    exact this
theorem own_same {w w' : World} {base : Nat} {e : TypeId} {size n : Nat} {v : Value} {xs : List Value} (h : w.ownsRow base e size v n xs) (hk : ∀ b, v.ownBlock = some b → w'.heap[b]? = w.heap[b]?) : w'.ownsRow base e size v n xs := by
  obtain ⟨h1, h2⟩ := h
  refine ⟨h1, ?_⟩
  rcases h2 with h2 | ⟨g, cap, cur, rfl, hg, hh, r⟩
  · exact .inl h2
  · exact .inr ⟨g, cap, cur, rfl, hg, (hk g rfl).trans hh, r⟩
theorem ne_some {w : World} {b b' : Nat} {e e' : TypeId} {s s' n n' : Nat} {v v' : Value} {xs xs' : List Value} (h : w.ownsRow b e s v n xs) (h' : w.ownsRow b' e' s' v' n' xs') (hne : e ≠ e') {x : Nat} (hx : v'.ownBlock = some x) : v.ownBlock ≠ some x := by
  rcases own_type_ne h h' hne with e | e
  · rw [e]; exact fun h => by cases h
  · rw [← hx]; exact e
theorem ne_back {v v' : Value} (h : NeRow v v') (x : Nat) (hx : v'.ownBlock = some x) : v.ownBlock ≠ some x := fun e => h x e hx
/-- The scene and the rows. -/
structure LS (W w : World) (g : Nat) (v0 v1 v2 v3 vu va : Value) (up : List Int) (own : List Pl) (kn : List Bool) (wh : List Pl) (n : Int) (us : List Int) (ats : List Two) : Prop where
  box : w.heap[g]? = some (.cells #[v0, v1, v2, v3, .int .i64 n] tG (0, 0))
  hg : W.heap.size ≤ g
  rw : RW W v0 v1 v2 v3 w up own kn wh
  lu : w.ownsRow W.heap.size 3 1 vu us.length (us.map (Value.int .i64))
  la : w.ownsRow W.heap.size tV 2 va ats.length (flat2 ats)
  ne : NeRow v0 vu
/-- A block that is none of theirs. -/
structure OffL (W : World) (g : Nat) (v0 v1 v2 v3 vu va : Value) (x : Nat) : Prop where
  b : W.heap.size ≤ x
  g : x ≠ g
  n0 : v0.ownBlock ≠ some x
  n1 : v1.ownBlock ≠ some x
  n2 : v2.ownBlock ≠ some x
  n3 : v3.ownBlock ≠ some x
  nu : vu.ownBlock ≠ some x
  na : va.ownBlock ≠ some x
section
variable {W w w1 : World} {g : Nat} {v0 v1 v2 v3 vu va v' : Value} {up us : List Int} {own : List Pl} {kn : List Bool} {wh : List Pl} {n : Int} {ats : List Two}
theorem LS.below (h : LS W w g v0 v1 v2 v3 vu va up own kn wh n us ats) (hb : Below w.heap.size w w1) : LS W w1 g v0 v1 v2 v3 vu va up own kn wh n us ats :=
  ⟨blk_below h.box hb, h.hg, h.rw.below hb, pw_own_below h.lu hb, pw_own_below h.la hb, h.ne⟩
theorem LS.drew (h : LS W w g v0 v1 v2 v3 vu va up own kn wh n us ats) : LS W w.drew g v0 v1 v2 v3 vu va up own kn wh n us ats := h.below (Below.refl _ _).drew
theorem LS.away (h : LS W w g v0 v1 v2 v3 vu va up own kn wh n us ats) {x : Nat} (hx : w.heap.size ≤ x) : OffL W g v0 v1 v2 v3 vu va x :=
  ⟨Nat.le_trans h.rw.bel.size hx, fun e => by have := blk_lt h.box; omega, fun e => by have := own_lt h.rw.r0 x e; omega, fun e => by have := own_lt h.rw.r1 x e; omega, fun e => by have := own_lt h.rw.r2 x e; omega, fun e => by have := own_lt h.rw.r3 x e; omega, fun e => by have := own_lt h.lu x e; omega, fun e => by have := own_lt h.la x e; omega⟩
theorem LS.off (h : LS W w g v0 v1 v2 v3 vu va up own kn wh n us ats) {x : Nat} (o : OffL W g v0 v1 v2 v3 vu va x) (i : Nat) (u : Value) : LS W (w.setCell ⟨x, i, none⟩ u) g v0 v1 v2 v3 vu va up own kn wh n us ats :=
  ⟨blk_far h.box (fun e => o.g e.symm) _, h.hg, RW.off h.rw ⟨o.b, o.n0, o.n1, o.n2, o.n3⟩ i u, own_setCell h.lu (fun e => o.nu e.symm) _, own_setCell h.la (fun e => o.na e.symm) _, h.ne⟩
theorem LS.appu (h : LS W w g v0 v1 v2 v3 vu va up own kn wh n us ats) (u : Int) (hown : w1.ownsRow W.heap.size 3 1 v' (us.length + 1) (us.map (Value.int .i64) ++ [.int .i64 u])) (hg : w.grownBy w1 vu.ownBlock) (hat : v'.ownBlock = vu.ownBlock ∨ ∃ b, v'.ownBlock = some b ∧ w.heap.size ≤ b) : LS W w1 g v0 v1 v2 v3 v' va up own kn wh n (us ++ [u]) ats :=
  ⟨blk_grown h.box hg (own_ne h.lu h.box (by decide)), h.hg, ⟨own_other h.rw.r0 hg (ne_other (ne_symm h.ne)), own_other h.rw.r1 hg (own_type_ne h.rw.r1 h.lu (by decide)), own_other h.rw.r2 hg (own_type_ne h.rw.r2 h.lu (by decide)), own_other h.rw.r3 hg (own_type_ne h.rw.r3 h.lu (by decide)), h.rw.ne, h.rw.bel.grown hg h.rw.bel.size (own_base h.lu)⟩,
    by simpa using hown, own_other h.la hg (own_type_ne h.la h.lu (by decide)), ne_append' h.ne hat h.rw.r0⟩
theorem LS.appa (h : LS W w g v0 v1 v2 v3 vu va up own kn wh n us ats) (x y : Int) (hown : w1.ownsRow W.heap.size tV 2 v' (ats.length + 1) (flat2 ats ++ [.int .i64 x, .int .i64 y])) (hg : w.grownBy w1 va.ownBlock) : LS W w1 g v0 v1 v2 v3 vu v' up own kn wh n us (ats ++ [(x, y)]) :=
  ⟨blk_grown h.box hg (own_ne h.la h.box (by decide)), h.hg, ⟨own_other h.rw.r0 hg (own_type_ne h.rw.r0 h.la (by decide)), own_other h.rw.r1 hg (own_type_ne h.rw.r1 h.la (by decide)), own_other h.rw.r2 hg (own_type_ne h.rw.r2 h.la (by decide)), own_other h.rw.r3 hg (own_type_ne h.rw.r3 h.la (by decide)), h.rw.ne, h.rw.bel.grown hg h.rw.bel.size (own_base h.la)⟩,
    own_other h.lu hg (own_type_ne h.lu h.la (by decide)), by rw [flat2_append, List.length_append]; exact hown, h.ne⟩
theorem LS.at2 (h : LS W w g v0 v1 v2 v3 vu va up own kn wh n us ats) (j : Nat) (hj : j < ats.length) : ∃ b c, va = .slice (some ⟨b, 0, none⟩) ats.length c ∧ w.cell? ⟨b, j * 2, none⟩ = some (.int .i64 (twoAt ats j).1) ∧ w.cell? ⟨b, j * 2 + 1, none⟩ = some (.int .i64 (twoAt ats j).2) := by
  obtain ⟨b, c, rfl⟩ := own_head h.la (by omega)
  have := flat2_at ats j hj
  exact ⟨b, c, rfl, (row_at h.la this.1).1, (row_at h.la this.2).1⟩
theorem info_vec : ∃ i0, Try.prog.info? tV = some i0 ∧ i0.zero = some (.agg #[.int .i64 0, .int .i64 0]) ∧ i0.size = 2 ∧ i0.bytes = 16 := by
  obtain ⟨i, hi, hz⟩ := Option.map_eq_some_iff.1 (show (Try.prog.info? tV).map (fun i => (i.zero, i.size, i.bytes)) = some (some (.agg #[.int .i64 0, .int .i64 0]), 2, 16) by kernel_rfl)
  simp only [Prod.mk.injEq] at hz
  exact ⟨i, hi, hz.1, hz.2.1, hz.2.2⟩
theorem Add_ls (h : LS W w g v0 v1 v2 v3 vu va up own kn wh n us ats) (k : Nat) (u : Int) (p : Pl) (hl : up.length < 100) (h1 : own.length = up.length) (h2 : kn.length = up.length) (h3 : wh.length = up.length) (hu0 : -1 ≤ u) (hu1 : u < up.length) (hfit : graph_fits.f k p.x p.y p.a p.s = some true) :
    Calls Try.prog 31 #[.pointer (some ⟨g, 0, none⟩), .int .i64 u, .agg #[.int .i64 p.x, .int .i64 p.y, .int .i64 p.a, .int .i64 p.s]] w fun e w' => e = .returned (.tuple #[.int .i64 up.length, .int .i64 0]) ∧ ∃ v0' v1' v2' v3' : Value, LS W w' g v0' v1' v2' v3' vu va (up ++ [u]) (own ++ [p]) (kn ++ [false]) (wh ++ [pl0]) n us ats ∧ w.heap.size ≤ w'.heap.size ∧ ∀ x, OffL W g v0 v1 v2 v3 vu va x → x < w.heap.size → w'.heap[x]? = w.heap[x]? := by
  refine (Add_x k up own kn wh n u p hl h1 h2 h3 hu0 hu1 hfit w h.box h.hg (fun hE => hE.2.1 rfl) h.rw.whole).mono fun e w' ⟨he, a, b, c, d, hB, hR⟩ => ⟨he, a, b, c, d, ⟨hB, h.hg, hR.rw, ?_, ?_, ?_⟩, hR.ks, fun x o hx => (hR.kp x ⟨hx, o.g, o.n0, o.n1, o.n2, o.n3⟩).2⟩
  · exact own_same h.lu fun x hx => (hR.kp x ⟨own_lt h.lu x hx, fun e => own_ne h.lu h.box (by decide) (by rw [hx, e]), ne_back h.ne x hx, ne_some h.rw.r1 h.lu (by decide) hx, ne_some h.rw.r2 h.lu (by decide) hx, ne_some h.rw.r3 h.lu (by decide) hx⟩).2
  · exact own_same h.la fun x hx => (hR.kp x ⟨own_lt h.la x hx, fun e => own_ne h.la h.box (by decide) (by rw [hx, e]), ne_some h.rw.r0 h.la (by decide) hx, ne_some h.rw.r1 h.la (by decide) hx, ne_some h.rw.r2 h.la (by decide) hx, ne_some h.rw.r3 h.la (by decide) hx⟩).2
  · intro x hx hx'
    exact hR.n0 x ⟨own_lt h.lu x hx', fun e => own_ne h.lu h.box (by decide) (by rw [hx', e]), ne_back h.ne x hx', ne_some h.rw.r1 h.lu (by decide) hx', ne_some h.rw.r2 h.lu (by decide) hx', ne_some h.rw.r3 h.lu (by decide) hx'⟩ hx
theorem At_ls (h : LS W w g v0 v1 v2 v3 vu va up own kn wh n us ats) (k i : Nat) (p : Pl) (s' : GS) (hi : i < up.length) (h1 : own.length = up.length) (h2 : kn.length = up.length) (h3 : wh.length = up.length) (hf : atF k ⟨up, own, kn, wh, n⟩ i = some (p, s')) :
    Calls Try.prog 32 #[.pointer (some ⟨g, 0, none⟩), .int .i64 i] w fun e w' => e = .returned (.tuple #[.agg #[.int .i64 p.x, .int .i64 p.y, .int .i64 p.a, .int .i64 p.s], .int .i64 0]) ∧ ∃ v0' v1' v2' v3' : Value, LS W w' g v0' v1' v2' v3' vu va s'.up s'.own s'.kn s'.wh s'.n us ats ∧ w.heap.size ≤ w'.heap.size ∧ ∀ (x : Nat) (c : Array Value) (t : TypeId), w.heap[x]? = some (.cells c t (0, 0)) → t ≠ tG → t ≠ 4 → t ≠ tP → w'.heap[x]? = some (.cells c t (0, 0)) := by
  obtain ⟨b0, b1, b2, b3, c0, c1, c2, c3, M⟩ := RW.open h.rw h.box h.hg (by omega) h1 h2 h3
  have hbox := h.box
  have e := M.box
  rw [hbox] at e
  injection e with e; injection e with e
  have e' := congrArg Array.toList e
  simp only [List.cons.injEq] at e'
  obtain ⟨rfl, rfl, rfl, rfl, _⟩ := e'
  clear e
  refine (At_in k _ i p s' hi hf w M).mono fun e w' ⟨he, M', K⟩ => ⟨he, _, _, _, _, ⟨M'.box, M'.g0, ⟨M'.r0, M'.r1, M'.r2, M'.r3, ?_, M'.bel⟩, ?_, ?_, ?_⟩, K.size, ?_⟩
  · intro x hx hx'
    have a : b1 = x := by simpa [Value.ownBlock] using hx
    have b : b3 = x := by simpa [Value.ownBlock] using hx'
    exact M'.ne (a.trans b.symm)
  · exact own_same h.lu fun x hx => K.block x (own_lt h.lu x hx) (fun e => own_ne h.lu hbox (by decide) (by rw [hx, e])) (fun e => ne_some h.rw.r2 h.lu (by decide) hx (by rw [e]; rfl)) (fun e => ne_some h.rw.r3 h.lu (by decide) hx (by rw [e]; rfl))
  · exact own_same h.la fun x hx => K.block x (own_lt h.la x hx) (fun e => own_ne h.la hbox (by decide) (by rw [hx, e])) (fun e => ne_some h.rw.r2 h.la (by decide) hx (by rw [e]; rfl)) (fun e => ne_some h.rw.r3 h.la (by decide) hx (by rw [e]; rfl))
  · intro x hx; exact h.ne x (by simpa [Value.ownBlock] using hx)
  · intro x c t hx h4 h5 h6
    refine (K.block x (blk_lt hx) (fun e => ?_) (fun e => ?_) (fun e => ?_)).trans hx
    · subst e; rw [hbox] at hx; injection hx with hx; injection hx with _ hx; exact h4 hx.symm
    · obtain ⟨d, hd⟩ := own_typed h.rw.r2 b2 rfl
      subst e; rw [hd] at hx; injection hx with hx; injection hx with _ hx; exact h5 hx.symm
    · obtain ⟨d, hd⟩ := own_typed h.rw.r3 b3 rfl
      subst e; rw [hd] at hx; injection hx with hx; injection hx with _ hx; exact h6 hx.symm
end
end Go.Proofs.Ytdopeneehminaaa.GraphPlainMemGraphPlain
