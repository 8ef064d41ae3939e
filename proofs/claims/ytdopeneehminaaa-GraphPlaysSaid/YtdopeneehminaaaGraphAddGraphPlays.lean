/- (*Graph).Add: a thing more. Under the conditions that stand at each. -/
import Derived.Test.YtdopeneehminaaaGraphSetGraphPlays
namespace Go.Proofs.Ytdopeneehminaaa.GraphAddGraphPlays
open Go Go.RowKit Go.Proofs.YtdopeneehminaaaW.PrintWords Go.Proofs.YtdopeneehminaaaW.PrintLast Go.Proofs.YtdopeneehminaaaW.PrintMore Go.Proofs.Ytdopeneehminaaa.Fnv Go.Proofs.Ytdopeneehminaaa.PGraphPlays Go.Proofs.Ytdopeneehminaaa.GraphMemGraphPlays Go.Proofs.Ytdopeneehminaaa.GraphAtGraphPlays Go.Proofs.Ytdopeneehminaaa.GraphSetGraphPlays
set_option linter.unusedVariables false
set_option linter.unusedSimpArgs false
/-- The four rows. -/
structure RW (W0 : World) (v0 v1 v2 v3 : Value) (w : World) (up : List Int) (own : List Pl) (kn : List Bool) (wh : List Pl) : Prop where
  r0 : w.ownsRow W0.heap.size 3 1 v0 up.length (up.map (Value.int .i64))
  r1 : w.ownsRow W0.heap.size tP 4 v1 own.length (flat own)
  r2 : w.ownsRow W0.heap.size 4 1 v2 kn.length (kn.map Value.bool)
  r3 : w.ownsRow W0.heap.size tP 4 v3 wh.length (flat wh)
  ne : NeRow v1 v3
  bel : Below W0.heap.size W0 w
section
variable {W0 w w1 : World} {v0 v1 v2 v3 v' : Value} {up : List Int} {own : List Pl} {kn : List Bool} {wh : List Pl}
theorem RW.below (h : RW W0 v0 v1 v2 v3 w up own kn wh) (hb : Below w.heap.size w w1) : RW W0 v0 v1 v2 v3 w1 up own kn wh :=
  ⟨pw_own_below h.r0 hb, pw_own_below h.r1 hb, pw_own_below h.r2 hb, pw_own_below h.r3 hb, h.ne, below_step h.bel hb⟩
theorem RW.app0 (h : RW W0 v0 v1 v2 v3 w up own kn wh) (u : Int) (hown : w1.ownsRow W0.heap.size 3 1 v' (up.length + 1) (up.map (Value.int .i64) ++ [.int .i64 u])) (hg : w.grownBy w1 v0.ownBlock) : RW W0 v' v1 v2 v3 w1 (up ++ [u]) own kn wh :=
  ⟨by simpa using hown, own_other h.r1 hg (own_type_ne h.r1 h.r0 (by decide)), own_other h.r2 hg (own_type_ne h.r2 h.r0 (by decide)), own_other h.r3 hg (own_type_ne h.r3 h.r0 (by decide)), h.ne, h.bel.grown hg h.bel.size (own_base h.r0)⟩
theorem RW.app1 (h : RW W0 v0 v1 v2 v3 w up own kn wh) (p : Pl) (hown : w1.ownsRow W0.heap.size tP 4 v' (own.length + 1) (flat own ++ [.int .i64 p.x, .int .i64 p.y, .int .i64 p.a, .int .i64 p.s])) (hg : w.grownBy w1 v1.ownBlock) (hat : v'.ownBlock = v1.ownBlock ∨ ∃ b, v'.ownBlock = some b ∧ w.heap.size ≤ b) : RW W0 v0 v' v2 v3 w1 up (own ++ [p]) kn wh :=
  ⟨own_other h.r0 hg (own_type_ne h.r0 h.r1 (by decide)), by rw [flat_append]; simpa [flat] using hown, own_other h.r2 hg (own_type_ne h.r2 h.r1 (by decide)), own_other h.r3 hg (ne_other h.ne), ne_append h.ne hat h.r3, h.bel.grown hg h.bel.size (own_base h.r1)⟩
theorem RW.app2 (h : RW W0 v0 v1 v2 v3 w up own kn wh) (b : Bool) (hown : w1.ownsRow W0.heap.size 4 1 v' (kn.length + 1) (kn.map Value.bool ++ [.bool b])) (hg : w.grownBy w1 v2.ownBlock) : RW W0 v0 v1 v' v3 w1 up own (kn ++ [b]) wh :=
  ⟨own_other h.r0 hg (own_type_ne h.r0 h.r2 (by decide)), own_other h.r1 hg (own_type_ne h.r1 h.r2 (by decide)), by simpa using hown, own_other h.r3 hg (own_type_ne h.r3 h.r2 (by decide)), h.ne, h.bel.grown hg h.bel.size (own_base h.r2)⟩
theorem RW.app3 (h : RW W0 v0 v1 v2 v3 w up own kn wh) (p : Pl) (hown : w1.ownsRow W0.heap.size tP 4 v' (wh.length + 1) (flat wh ++ [.int .i64 p.x, .int .i64 p.y, .int .i64 p.a, .int .i64 p.s])) (hg : w.grownBy w1 v3.ownBlock) (hat : v'.ownBlock = v3.ownBlock ∨ ∃ b, v'.ownBlock = some b ∧ w.heap.size ≤ b) : RW W0 v0 v1 v2 v' w1 up own kn (wh ++ [p]) :=
  ⟨own_other h.r0 hg (own_type_ne h.r0 h.r3 (by decide)), own_other h.r1 hg (ne_other (ne_symm h.ne)), own_other h.r2 hg (own_type_ne h.r2 h.r3 (by decide)), by rw [flat_append]; simpa [flat] using hown, ne_append' h.ne hat h.r1, h.bel.grown hg h.bel.size (own_base h.r3)⟩
/-- A store into a box of another type. -/
theorem RW.far (h : RW W0 v0 v1 v2 v3 w up own kn wh) {g i : Nat} {cs : Array Value} {t : TypeId} (hb : w.heap[g]? = some (.cells cs t (0, 0))) (h3 : (3 : TypeId) ≠ t) (h4 : (4 : TypeId) ≠ t) (h5 : tP ≠ t) (hg : W0.heap.size ≤ g) (v : Value) : RW W0 v0 v1 v2 v3 (w.setCell ⟨g, i, none⟩ v) up own kn wh :=
  ⟨own_setCell h.r0 (own_ne h.r0 hb h3) _, own_setCell h.r1 (own_ne h.r1 hb h5) _, own_setCell h.r2 (own_ne h.r2 hb h4) _, own_setCell h.r3 (own_ne h.r3 hb h5) _, h.ne, below_set h.bel hg⟩
end
/-- The four rows, and what stays of an elder world: the blocks E. -/
structure RX (W0 WX : World) (E : Nat → Prop) (v0 v1 v2 v3 : Value) (w : World) (up : List Int) (own : List Pl) (kn : List Bool) (wh : List Pl) : Prop where
  rw : RW W0 v0 v1 v2 v3 w up own kn wh
  ks : WX.heap.size ≤ w.heap.size
  kp : ∀ j, E j → j < WX.heap.size ∧ w.heap[j]? = WX.heap[j]?
  n0 : ∀ j, E j → v0.ownBlock ≠ some j
  n1 : ∀ j, E j → v1.ownBlock ≠ some j
  n2 : ∀ j, E j → v2.ownBlock ≠ some j
  n3 : ∀ j, E j → v3.ownBlock ≠ some j
section
variable {W0 WX w w1 : World} {E : Nat → Prop} {v0 v1 v2 v3 v' : Value} {up : List Int} {own : List Pl} {kn : List Bool} {wh : List Pl}
theorem RX.r0 (h : RX W0 WX E v0 v1 v2 v3 w up own kn wh) : w.ownsRow W0.heap.size 3 1 v0 up.length (up.map (Value.int .i64)) := h.rw.r0
theorem RX.r1 (h : RX W0 WX E v0 v1 v2 v3 w up own kn wh) : w.ownsRow W0.heap.size tP 4 v1 own.length (flat own) := h.rw.r1
theorem RX.r2 (h : RX W0 WX E v0 v1 v2 v3 w up own kn wh) : w.ownsRow W0.heap.size 4 1 v2 kn.length (kn.map Value.bool) := h.rw.r2
theorem RX.r3 (h : RX W0 WX E v0 v1 v2 v3 w up own kn wh) : w.ownsRow W0.heap.size tP 4 v3 wh.length (flat wh) := h.rw.r3
theorem RX.bel (h : RX W0 WX E v0 v1 v2 v3 w up own kn wh) : Below W0.heap.size W0 w := h.rw.bel
theorem RX.below (h : RX W0 WX E v0 v1 v2 v3 w up own kn wh) (hb : Below w.heap.size w w1) : RX W0 WX E v0 v1 v2 v3 w1 up own kn wh :=
  ⟨h.rw.below hb, Nat.le_trans h.ks hb.size, fun j hj => ⟨(h.kp j hj).1, (hb.block j (Nat.lt_of_lt_of_le (h.kp j hj).1 h.ks)).trans (h.kp j hj).2⟩, h.n0, h.n1, h.n2, h.n3⟩
theorem kept_grown {row : Option Nat} (hs : WX.heap.size ≤ w.heap.size) (hk : ∀ j, E j → j < WX.heap.size ∧ w.heap[j]? = WX.heap[j]?) (hn : ∀ j, E j → row ≠ some j) (hg : w.grownBy w1 row) : ∀ j, E j → j < WX.heap.size ∧ w1.heap[j]? = WX.heap[j]? :=
  fun j hj => ⟨(hk j hj).1, (hg.block j (Nat.lt_of_lt_of_le (hk j hj).1 hs) (fun e => hn j hj e.symm)).trans (hk j hj).2⟩
theorem new_own {v v' : Value} (hs : WX.heap.size ≤ w.heap.size) (hk : ∀ j, E j → j < WX.heap.size ∧ w.heap[j]? = WX.heap[j]?) (hn : ∀ j, E j → v.ownBlock ≠ some j) (hat : v'.ownBlock = v.ownBlock ∨ ∃ b, v'.ownBlock = some b ∧ w.heap.size ≤ b) : ∀ j, E j → v'.ownBlock ≠ some j := fun j hj e => by
  rcases hat with h | ⟨b, h, hb⟩
  · exact hn j hj (h ▸ e)
  · rw [h] at e
    have := Option.some.inj e
    have := (hk j hj).1
    omega
theorem RX.app0 (h : RX W0 WX E v0 v1 v2 v3 w up own kn wh) (u : Int) (hown : w1.ownsRow W0.heap.size 3 1 v' (up.length + 1) (up.map (Value.int .i64) ++ [.int .i64 u])) (hg : w.grownBy w1 v0.ownBlock) (hat : v'.ownBlock = v0.ownBlock ∨ ∃ b, v'.ownBlock = some b ∧ w.heap.size ≤ b) : RX W0 WX E v' v1 v2 v3 w1 (up ++ [u]) own kn wh :=
  ⟨h.rw.app0 u hown hg, Nat.le_trans h.ks hg.size, kept_grown h.ks h.kp h.n0 hg, new_own h.ks h.kp h.n0 hat, h.n1, h.n2, h.n3⟩
theorem RX.app1 (h : RX W0 WX E v0 v1 v2 v3 w up own kn wh) (p : Pl) (hown : w1.ownsRow W0.heap.size tP 4 v' (own.length + 1) (flat own ++ [.int .i64 p.x, .int .i64 p.y, .int .i64 p.a, .int .i64 p.s])) (hg : w.grownBy w1 v1.ownBlock) (hat : v'.ownBlock = v1.ownBlock ∨ ∃ b, v'.ownBlock = some b ∧ w.heap.size ≤ b) : RX W0 WX E v0 v' v2 v3 w1 up (own ++ [p]) kn wh :=
  ⟨h.rw.app1 p hown hg hat, Nat.le_trans h.ks hg.size, kept_grown h.ks h.kp h.n1 hg, h.n0, new_own h.ks h.kp h.n1 hat, h.n2, h.n3⟩
theorem RX.app2 (h : RX W0 WX E v0 v1 v2 v3 w up own kn wh) (b : Bool) (hown : w1.ownsRow W0.heap.size 4 1 v' (kn.length + 1) (kn.map Value.bool ++ [.bool b])) (hg : w.grownBy w1 v2.ownBlock) (hat : v'.ownBlock = v2.ownBlock ∨ ∃ b, v'.ownBlock = some b ∧ w.heap.size ≤ b) : RX W0 WX E v0 v1 v' v3 w1 up own (kn ++ [b]) wh :=
  ⟨h.rw.app2 b hown hg, Nat.le_trans h.ks hg.size, kept_grown h.ks h.kp h.n2 hg, h.n0, h.n1, new_own h.ks h.kp h.n2 hat, h.n3⟩
theorem RX.app3 (h : RX W0 WX E v0 v1 v2 v3 w up own kn wh) (p : Pl) (hown : w1.ownsRow W0.heap.size tP 4 v' (wh.length + 1) (flat wh ++ [.int .i64 p.x, .int .i64 p.y, .int .i64 p.a, .int .i64 p.s])) (hg : w.grownBy w1 v3.ownBlock) (hat : v'.ownBlock = v3.ownBlock ∨ ∃ b, v'.ownBlock = some b ∧ w.heap.size ≤ b) : RX W0 WX E v0 v1 v2 v' w1 up own kn (wh ++ [p]) :=
  ⟨h.rw.app3 p hown hg hat, Nat.le_trans h.ks hg.size, kept_grown h.ks h.kp h.n3 hg, h.n0, h.n1, h.n2, new_own h.ks h.kp h.n3 hat⟩
theorem RX.far (h : RX W0 WX E v0 v1 v2 v3 w up own kn wh) {g i : Nat} {cs : Array Value} {t : TypeId} (hb : w.heap[g]? = some (.cells cs t (0, 0))) (h3 : (3 : TypeId) ≠ t) (h4 : (4 : TypeId) ≠ t) (h5 : tP ≠ t) (hg : W0.heap.size ≤ g) (hE : ¬ E g) (v : Value) : RX W0 WX E v0 v1 v2 v3 (w.setCell ⟨g, i, none⟩ v) up own kn wh :=
  ⟨h.rw.far hb h3 h4 h5 hg v, Nat.le_trans h.ks (show w.heap.size ≤ (w.setCell ⟨g, i, none⟩ v).heap.size by simp [World.setCell]), fun j hj => ⟨(h.kp j hj).1, (Below.heap_setCell w _ v j (by intro e; have e' : j = g := e; exact hE (e' ▸ hj))).trans (h.kp j hj).2⟩, h.n0, h.n1, h.n2, h.n3⟩
end
theorem info_place : ∃ i0, Try.prog.info? tP = some i0 ∧ i0.zero = some (.agg #[.int .i64 0, .int .i64 0, .int .i64 0, .int .i64 0]) ∧ i0.size = 4 ∧ i0.bytes = 32 := by
  obtain ⟨i, hi, hz⟩ := Option.map_eq_some_iff.1 (show (Try.prog.info? tP).map (fun i => (i.zero, i.size, i.bytes)) = some (some (.agg #[.int .i64 0, .int .i64 0, .int .i64 0, .int .i64 0]), 4, 32) by kernel_rfl)
  simp only [Prod.mk.injEq] at hz
  exact ⟨i, hi, hz.1, hz.2.1, hz.2.2⟩
theorem info_int : ∃ i0, Try.prog.info? 3 = some i0 ∧ i0.zero = some (.int .i64 0) ∧ i0.size = 1 ∧ i0.bytes = 8 := by
  obtain ⟨i, hi, hz⟩ := Option.map_eq_some_iff.1 (show (Try.prog.info? 3).map (fun i => (i.zero, i.size, i.bytes)) = some (some (.int .i64 0), 1, 8) by kernel_rfl)
  simp only [Prod.mk.injEq] at hz
  exact ⟨i, hi, hz.1, hz.2.1, hz.2.2⟩
theorem info_bool : ∃ i0, Try.prog.info? 4 = some i0 ∧ i0.zero = some (.bool false) ∧ i0.size = 1 ∧ i0.bytes = 1 := by
  obtain ⟨i, hi, hz⟩ := Option.map_eq_some_iff.1 (show (Try.prog.info? 4).map (fun i => (i.zero, i.size, i.bytes)) = some (some (.bool false), 1, 1) by kernel_rfl)
  simp only [Prod.mk.injEq] at hz
  exact ⟨i, hi, hz.1, hz.2.1, hz.2.2⟩
theorem row_step {P : Program} {ops : Array Oper} {Q : Exit → Act → World → Prop} {o : Oper} {a : Act} {Kc : Act → World → Prop} {W : World} (hw : Region.wanted o (yielded ops a.tmps) = true) {N : Option Tmp} (hd : o.dst = N) {cs : Array Value} {t : TypeId} {n : Nat}
    (hrun : (execOp a.eval o).run P W = .ok (.value (.slice (some ⟨W.heap.size, 0, none⟩) n n)) (W.alloc (.cells cs t (0, 0))))
    (h : ∀ g, g = W.heap.size → ∀ w1, w1.heap[g]? = some (.cells cs t (0, 0)) → Below W.heap.size W w1 → Kc (a.put N (.slice (some ⟨g, 0, none⟩) n n)) w1) : if Region.wanted o (yielded ops a.tmps) = true then Oper.wp P o a W Kc Q else Kc (a.put N undef) W := by
  subst hd
  rw [if_pos hw]
  unfold Oper.wp
  rw [hrun]
  exact h _ rfl _ (blk_new W _) (below_alloc (Below.refl _ _) _)
set_option maxHeartbeats 16000000 in
set_option maxRecDepth 100000 in
theorem Add_x {W0 WX : World} {E : Nat → Prop} {g : Nat} {v0 v1 v2 v3 : Value} (k : Nat) (up : List Int) (own : List Pl) (kn : List Bool) (wh : List Pl) (n u : Int) (p : Pl) (hl : up.length < 100) (h1 : own.length = up.length) (h2 : kn.length = up.length) (h3 : wh.length = up.length) (hu0 : -1 ≤ u) (hu1 : u < up.length) (hfit : graph_fits.f k p.x p.y p.a p.s = some true)
    (w : World) (hB : w.heap[g]? = some (.cells #[v0, v1, v2, v3, .int .i64 n] tG (0, 0))) (hg : W0.heap.size ≤ g) (hEg : ¬ E g) (hR : RX W0 WX E v0 v1 v2 v3 w up own kn wh) :
    Calls Try.prog 31 #[.pointer (some ⟨g, 0, none⟩), .int .i64 u, .agg #[.int .i64 p.x, .int .i64 p.y, .int .i64 p.a, .int .i64 p.s]] w fun e w' => e = .returned (.tuple #[.int .i64 up.length, .int .i64 0]) ∧ ∃ v0' v1' v2' v3' : Value, w'.heap[g]? = some (.cells #[v0', v1', v2', v3', .int .i64 n] tG (0, 0)) ∧ RX W0 WX E v0' v1' v2' v3' w' (up ++ [u]) (own ++ [p]) (kn ++ [false]) (wh ++ [pl0]) := by
  have hu80 := Try.underlying80
  have hu52 := Try.underlying52
  obtain ⟨A0, c0, rfl⟩ := own_slice hR.r0
  have q0 : ((up.length : Int) == 100) = false := beq_eq_false_iff_ne.mpr (by omega)
  have q0' : (up.length == 100) = false := beq_eq_false_iff_ne.mpr (by omega)
  have q1 : decide (u < -1) = false := decide_eq_false (by omega)
  have q2 : decide (u ≥ (up.length : Int)) = false := decide_eq_false (by omega)
  have BH := Aside0.mk hB
  have RH := Aside0.mk hR
  have HF := Aside0.mk hfit
  have HG := Aside0.mk hg
  have HE := Aside0.mk hEg
  have HL := Aside0.mk hl
  have H1 := Aside0.mk h1
  have H2 := Aside0.mk h2
  have H3 := Aside0.mk h3
  clear hB hR hfit hg hEg hl h1 h2 h3 hu0 hu1
  go_enter Try.func31, Try.ntmps31
  go_upto_region 0 with fail
  go_cut [5] (fun v5 w' => ∃ g5 : Nat, v5 = .pointer (some ⟨g5, 0, none⟩) ∧ w'.heap[g5]? = some (.cells #[.int .i64 p.x, .int .i64 p.y, .int .i64 p.a, .int .i64 p.s] tP (0, 0)) ∧ Below w.heap.size w w')
  case first =>
    go_wp2_with fail
    go_meet
    exact ⟨_, rfl, blk_new _ _, below_alloc (Below.refl _ _) _⟩
  case rest =>
    obtain ⟨g5, rfl, B5, hb⟩ := hcut
    replace B5 := Aside0.mk B5
    replace BH := Aside0.mk (blk_below BH.out hb)
    replace RH := Aside0.mk (RH.out.below hb)
    clear hb
    have e0 : wc.cell? ⟨g, 0, none⟩ = some (.slice A0 up.length c0) := (blk_cell BH.out 0).trans rfl
    obtain ⟨z0, z1, z2, z3⟩ := four B5.out
    go_upto_region 7 with (first | ((with_reducible refine gate_callee (f := 51) rfl ?_); refine goesL_ (some 26) rfl rfl Try.func51 (by kernel_rfl) rfl #[.agg #[.int .i64 p.x, .int .i64 p.y, .int .i64 p.a, .int .i64 p.s]] rfl (by (try simp only [List.map_toArray, List.map_cons, List.map_nil]); first | done | rfl) ?_; (refine (graph_fits.calls k p.x p.y p.a p.s true _ HF.out).mono ?_); rintro e w3 ⟨rfl, hb⟩; refine ⟨_, rfl, ?_⟩; clear e0 z0 z1 z2 z3; replace B5 := Aside0.mk (blk_below B5.out hb); replace BH := Aside0.mk (blk_below BH.out hb); replace RH := Aside0.mk (RH.out.below hb); clear hb))
    replace B5 := Aside0.mk (blk_drew B5.out)
    replace BH := Aside0.mk (blk_drew BH.out)
    replace RH := Aside0.mk (RH.out.below (Below.refl _ _).drew)
    refine start_ (n := 22) (S := fun w' => w'.cell? ⟨g, 0, none⟩ = some (.slice A0 up.length c0) ∧ w'.cell? ⟨g, 1, none⟩ = some v1 ∧ w'.cell? ⟨g5, 0, none⟩ = some (.int .i64 p.x) ∧ w'.cell? ⟨g5, 1, none⟩ = some (.int .i64 p.y) ∧ w'.cell? ⟨g5, 2, none⟩ = some (.int .i64 p.a) ∧ w'.cell? ⟨g5, 3, none⟩ = some (.int .i64 p.s)) (ds := [15, 18, 21]) #[false, false, false, false, false, false, false, false, false, false, false, false, false, false, false, false, false, false, false, false, false, false] (by kernel_rfl) rfl rfl ⟨(blk_cell BH.out 0).trans rfl, (blk_cell BH.out 1).trans rfl, (blk_cell B5.out 0).trans rfl, (blk_cell B5.out 1).trans rfl, (blk_cell B5.out 2).trans rfl, (blk_cell B5.out 3).trans rfl⟩ (fun hHeld => ?_)
    generalize w3.drew = wd at BH RH B5 hHeld ⊢
    refine pure_ (i := 0) (N := some 28) (v := ?_) (a' := ?_) #[true, false, false, false, false, false, false, false, false, false, false, false, false, false, false, false, false, false, false, false, false, false] rfl rfl (by kernel_rfl) (fun _ _ _ h => h) (Or.inl ⟨by rfl, ?_⟩) ?_ ?_
    rotate_left
    · intro w'
      go_simp
      with_reducible rfl
    rotate_left
    · simp only [Act.put, List.setIfInBounds_toArray, List.set_cons_zero, List.set_cons_succ, i64_w, i32_w]
      rfl
    refine pure_ (i := 1) (N := some 29) (v := ?_) (a' := ?_) #[true, true, false, false, false, false, false, false, false, false, false, false, false, false, false, false, false, false, false, false, false, false] rfl rfl (by kernel_rfl) (fun _ _ _ h => h) (Or.inl ⟨by rfl, ?_⟩) ?_ ?_
    rotate_left
    · intro w'
      go_simp
      with_reducible rfl
    rotate_left
    · simp only [Act.put, List.setIfInBounds_toArray, List.set_cons_zero, List.set_cons_succ, i64_w, i32_w]
      rfl
    refine pure_ (i := 2) (N := some 30) (v := ?_) (a' := ?_) #[true, true, true, false, false, false, false, false, false, false, false, false, false, false, false, false, false, false, false, false, false, false] rfl rfl (by kernel_rfl) (fun _ _ _ h => h) (Or.inl ⟨by rfl, ?_⟩) ?_ ?_
    rotate_left
    · intro w'
      go_simp
      with_reducible rfl
    rotate_left
    · simp only [Act.put, List.setIfInBounds_toArray, List.set_cons_zero, List.set_cons_succ, i64_w, i32_w]
      rfl
    refine pure_ (i := 3) (N := some 31) (v := ?_) (a' := ?_) #[true, true, true, true, false, false, false, false, false, false, false, false, false, false, false, false, false, false, false, false, false, false] rfl rfl (by kernel_rfl) (fun _ _ _ h => h) (Or.inl ⟨by rfl, ?_⟩) ?_ ?_
    rotate_left
    · intro w'
      go_simp
      with_reducible rfl
    rotate_left
    · simp only [Act.put, List.setIfInBounds_toArray, List.set_cons_zero, List.set_cons_succ, i64_w, i32_w]
      rfl
    refine pure_ (i := 4) (N := some 32) (v := ?_) (a' := ?_) #[true, true, true, true, true, false, false, false, false, false, false, false, false, false, false, false, false, false, false, false, false, false] rfl rfl (by kernel_rfl) (fun _ _ _ h => h) (Or.inl ⟨by rfl, ?_⟩) ?_ ?_
    rotate_left
    · intro w'
      go_simp
      with_reducible rfl
    rotate_left
    · simp only [Act.put, List.setIfInBounds_toArray, List.set_cons_zero, List.set_cons_succ, i64_w, i32_w]
      rfl
    refine pure_ (i := 6) (N := some 34) (v := ?_) (a' := ?_) #[true, true, true, true, true, false, true, false, false, false, false, false, false, false, false, false, false, false, false, false, false, false] rfl rfl (by kernel_rfl) (fun _ _ _ h => h) (Or.inl ⟨by rfl, ?_⟩) ?_ ?_
    rotate_left
    · intro w'
      go_simp
      with_reducible rfl
    rotate_left
    · simp only [Act.put, List.setIfInBounds_toArray, List.set_cons_zero, List.set_cons_succ, i64_w, i32_w]
      rfl
    refine pure_ (i := 9) (N := some 37) (v := ?_) (a' := ?_) #[true, true, true, true, true, false, true, false, false, true, false, false, false, false, false, false, false, false, false, false, false, false] rfl rfl (by kernel_rfl) (fun _ _ _ h => h) (Or.inl ⟨by rfl, ?_⟩) ?_ ?_
    rotate_left
    · intro w'
      go_simp
      with_reducible rfl
    rotate_left
    · simp only [Act.put, List.setIfInBounds_toArray, List.set_cons_zero, List.set_cons_succ, i64_w, i32_w]
      rfl
    refine pure_ (i := 10) (N := some 38) (v := ?_) (a' := ?_) #[true, true, true, true, true, false, true, false, false, true, true, false, false, false, false, false, false, false, false, false, false, false] rfl rfl (by kernel_rfl) (fun _ _ _ h => h) (Or.inl ⟨by rfl, ?_⟩) ?_ ?_
    rotate_left
    · intro w'
      go_simp
      with_reducible rfl
    rotate_left
    · simp only [Act.put, List.setIfInBounds_toArray, List.set_cons_zero, List.set_cons_succ, i64_w, i32_w]
      rfl
    refine pure_ (i := 11) (N := some 39) (v := ?_) (a' := ?_) #[true, true, true, true, true, false, true, false, false, true, true, true, false, false, false, false, false, false, false, false, false, false] rfl rfl (by kernel_rfl) (fun _ _ _ h => h) (Or.inl ⟨by rfl, ?_⟩) ?_ ?_
    rotate_left
    · intro w'
      go_simp
      with_reducible rfl
    rotate_left
    · simp only [Act.put, List.setIfInBounds_toArray, List.set_cons_zero, List.set_cons_succ, i64_w, i32_w]
      rfl
    refine take_ (i := 5) (N := some 33) (v := ?_) (a' := ?_) #[true, true, true, true, true, true, true, false, false, true, true, true, false, false, false, false, false, false, false, false, false, false] rfl rfl (by kernel_rfl) (fun _ _ _ h => h) (Or.inl ⟨by rfl, ?_⟩) hHeld ?_ ?_
    rotate_left
    · rintro w' ⟨s0, s1, s2, s3, s4, s5⟩
      go_simp
      with_reducible rfl
    rotate_left
    · simp only [Act.put, List.setIfInBounds_toArray, List.set_cons_zero, List.set_cons_succ, i64_w, i32_w]
      rfl
    refine take_ (i := 12) (N := some 40) (v := ?_) (a' := ?_) #[true, true, true, true, true, true, true, false, false, true, true, true, true, false, false, false, false, false, false, false, false, false] rfl rfl (by kernel_rfl) (fun _ _ _ h => h) (Or.inl ⟨by rfl, ?_⟩) hHeld ?_ ?_
    rotate_left
    · rintro w' ⟨s0, s1, s2, s3, s4, s5⟩
      go_simp
      with_reducible rfl
    rotate_left
    · simp only [Act.put, List.setIfInBounds_toArray, List.set_cons_zero, List.set_cons_succ, i64_w, i32_w]
      rfl
    refine take_ (i := 13) (N := some 41) (v := ?_) (a' := ?_) #[true, true, true, true, true, true, true, false, false, true, true, true, true, true, false, false, false, false, false, false, false, false] rfl rfl (by kernel_rfl) (fun _ _ _ h => h) (Or.inl ⟨by rfl, ?_⟩) hHeld ?_ ?_
    rotate_left
    · rintro w' ⟨s0, s1, s2, s3, s4, s5⟩
      go_simp
      with_reducible rfl
    rotate_left
    · simp only [Act.put, List.setIfInBounds_toArray, List.set_cons_zero, List.set_cons_succ, i64_w, i32_w]
      rfl
    refine join_ (σ := Nat × Nat × Nat × Nat) 7 #[true, true, true, true, true, true, true, true, true, true, true, true, true, true, true, false, false, false, false, false, false, false] (fun s => [(35, .slice (some ⟨s.1, 0, none⟩) 1 1), (36, .slice (some ⟨s.2.1, 0, none⟩) (up.length + 1) s.2.2.1), (42, .slice (some ⟨s.2.2.2, 0, none⟩) 1 1)]) (fun s w' => w'.heap[g]? = some (.cells #[.slice A0 up.length c0, v1, v2, v3, .int .i64 n] tG (0, 0)) ∧ RX W0 WX E (.slice (some ⟨s.2.1, 0, none⟩) (up.length + 1) s.2.2.1) (v1) (v2) (v3) w' (up ++ [u]) (own) (kn) (wh) ∧ w'.heap[s.2.2.2]? = some (.cells #[.int .i64 p.x, .int .i64 p.y, .int .i64 p.a, .int .i64 p.s] tP (0, 0))) ?_ ?_
    rotate_left
    · intro hCont
      refine two_ (i := 7) (j := 14) (Ni := some 35) (Nj := some 42) #[true, true, true, true, true, true, true, true, false, true, true, true, true, true, false, false, false, false, false, false, false, false] #[true, true, true, true, true, true, true, false, false, true, true, true, true, true, true, false, false, false, false, false, false, false] rfl rfl rfl rfl (by kernel_rfl) (by decide) (by decide) (fun K hK => ?_) (fun K hK => ?_)
      · skip
        refine row_step (by rfl) rfl (cs := #[.int .i64 u]) (t := 3) (n := 1) ?_ ?_
        · first | (go_simp; done) | (go_simp; rfl)
        intro gA hg_ wa hbox hb
        have LA := Aside0.mk hbox
        have BH := Aside0.mk (blk_below BH.out hb)
        have RH := Aside0.mk (RH.out.below hb)
        have B5 := Aside0.mk (blk_below B5.out hb)
        clear hg_ hbox hb
        refine hK.out _ _ ⟨(blk_cell BH.out 0).trans rfl, (blk_cell BH.out 1).trans rfl, (blk_cell B5.out 0).trans rfl, (blk_cell B5.out 1).trans rfl, (blk_cell B5.out 2).trans rfl, (blk_cell B5.out 3).trans rfl⟩ (fun hHeld => ?_)
        clear hK K
        refine norm_ (a' := ?_) ?_ ?_
        rotate_left
        · show Act.put _ (some 35) _ = _
          simp only [Act.put, List.setIfInBounds_toArray, List.set_cons_zero, List.set_cons_succ, i64_w, i32_w]
          rfl
        refine two_ (i := 8) (j := 14) (Ni := some 36) (Nj := some 42) #[true, true, true, true, true, true, true, true, true, true, true, true, true, true, false, false, false, false, false, false, false, false] #[true, true, true, true, true, true, true, true, false, true, true, true, true, true, true, false, false, false, false, false, false, false] rfl rfl rfl rfl (by kernel_rfl) (by decide) (by decide) (fun K hK => ?_) (fun K hK => ?_)
        · skip
          obtain ⟨i0, hi0, hz0, hs0, hb0⟩ := info_int
          refine step_append_lies _ rfl (.tmp 33) (.tmp 35) 48 rfl W0.heap.size 3 i0 _ 1 8 Try.underlying48 hi0 hz0 hs0 hb0 rfl (by decide) (.slice A0 up.length c0) up.length (up.map (Value.int .i64)) rfl RH.out.r0 ⟨gA, 0, none⟩ 1 1 [.int .i64 u] rfl rfl (by simpa using World.news_of_block LA.out) (by simp [Value.oneCell']) (by decide) (by have := HL.out; have := H1.out; have := H2.out; have := H3.out; unfold maxLen; omega) (by have := HL.out; have := H1.out; have := H2.out; have := H3.out; omega) RH.out.bel.size _ rfl ?_
          intro h7 c7 wb hown hgr hat hlt
          have BH := Aside0.mk (blk_grown BH.out hgr (own_ne RH.out.r0 BH.out (by decide)))
          have B5 := Aside0.mk (blk_grown B5.out hgr (own_ne RH.out.r0 B5.out (by decide)))
          have RH := Aside0.mk (RH.out.app0 (u) hown hgr (hat.imp (fun e => e.symm) fun e => ⟨_, rfl, Nat.le_of_eq e.symm⟩))
          clear hown hgr hat hlt i0 hi0 hz0 hs0 hb0 LA
          refine hK.out _ _ ⟨(blk_cell BH.out 0).trans rfl, (blk_cell BH.out 1).trans rfl, (blk_cell B5.out 0).trans rfl, (blk_cell B5.out 1).trans rfl, (blk_cell B5.out 2).trans rfl, (blk_cell B5.out 3).trans rfl⟩ (fun hHeld => ?_)
          clear hK K
          refine norm_ (a' := ?_) ?_ ?_
          rotate_left
          · show Act.put _ (some 36) _ = _
            simp only [Act.put, List.setIfInBounds_toArray, List.set_cons_zero, List.set_cons_succ, i64_w, i32_w]
            rfl
          refine one_ (i := 14) (N := some 42) #[true, true, true, true, true, true, true, true, true, true, true, true, true, true, true, false, false, false, false, false, false, false] rfl rfl (by kernel_rfl) (by decide) (fun K hK => ?_)
          refine row_step (by rfl) rfl (cs := #[.int .i64 p.x, .int .i64 p.y, .int .i64 p.a, .int .i64 p.s]) (t := tP) (n := 1) ?_ ?_
          · first | (go_simp; done) | (go_simp; rfl)
          intro gB hg_ wa hbox hb
          have LB := Aside0.mk hbox
          have BH := Aside0.mk (blk_below BH.out hb)
          have RH := Aside0.mk (RH.out.below hb)
          have B5 := Aside0.mk (blk_below B5.out hb)
          clear hg_ hbox hb
          refine hK.out _ _ ⟨(blk_cell BH.out 0).trans rfl, (blk_cell BH.out 1).trans rfl, (blk_cell B5.out 0).trans rfl, (blk_cell B5.out 1).trans rfl, (blk_cell B5.out 2).trans rfl, (blk_cell B5.out 3).trans rfl⟩ (fun hHeld => ?_)
          clear hK K
          refine norm_ (a' := ?_) ?_ ?_
          rotate_left
          · show Act.put _ (some 42) _ = _
            simp only [Act.put, List.setIfInBounds_toArray, List.set_cons_zero, List.set_cons_succ, i64_w, i32_w]
            rfl
          exact norm_ (by simp only [putAll, Act.put, List.setIfInBounds_toArray, List.set_cons_zero, List.set_cons_succ]) (hCont (gA, h7, c7, gB) _ ⟨BH.out, RH.out, LB.out⟩)
        · skip
          refine row_step (by rfl) rfl (cs := #[.int .i64 p.x, .int .i64 p.y, .int .i64 p.a, .int .i64 p.s]) (t := tP) (n := 1) ?_ ?_
          · first | (go_simp; done) | (go_simp; rfl)
          intro gB hg_ wa hbox hb
          have LB := Aside0.mk hbox
          have BH := Aside0.mk (blk_below BH.out hb)
          have RH := Aside0.mk (RH.out.below hb)
          have B5 := Aside0.mk (blk_below B5.out hb)
          have LA := Aside0.mk (blk_below LA.out hb)
          clear hg_ hbox hb
          refine hK.out _ _ ⟨(blk_cell BH.out 0).trans rfl, (blk_cell BH.out 1).trans rfl, (blk_cell B5.out 0).trans rfl, (blk_cell B5.out 1).trans rfl, (blk_cell B5.out 2).trans rfl, (blk_cell B5.out 3).trans rfl⟩ (fun hHeld => ?_)
          clear hK K
          refine norm_ (a' := ?_) ?_ ?_
          rotate_left
          · show Act.put _ (some 42) _ = _
            simp only [Act.put, List.setIfInBounds_toArray, List.set_cons_zero, List.set_cons_succ, i64_w, i32_w]
            rfl
          refine one_ (i := 8) (N := some 36) #[true, true, true, true, true, true, true, true, true, true, true, true, true, true, true, false, false, false, false, false, false, false] rfl rfl (by kernel_rfl) (by decide) (fun K hK => ?_)
          obtain ⟨i0, hi0, hz0, hs0, hb0⟩ := info_int
          refine step_append_lies _ rfl (.tmp 33) (.tmp 35) 48 rfl W0.heap.size 3 i0 _ 1 8 Try.underlying48 hi0 hz0 hs0 hb0 rfl (by decide) (.slice A0 up.length c0) up.length (up.map (Value.int .i64)) rfl RH.out.r0 ⟨gA, 0, none⟩ 1 1 [.int .i64 u] rfl rfl (by simpa using World.news_of_block LA.out) (by simp [Value.oneCell']) (by decide) (by have := HL.out; have := H1.out; have := H2.out; have := H3.out; unfold maxLen; omega) (by have := HL.out; have := H1.out; have := H2.out; have := H3.out; omega) RH.out.bel.size _ rfl ?_
          intro h7 c7 wb hown hgr hat hlt
          have BH := Aside0.mk (blk_grown BH.out hgr (own_ne RH.out.r0 BH.out (by decide)))
          have B5 := Aside0.mk (blk_grown B5.out hgr (own_ne RH.out.r0 B5.out (by decide)))
          have LB := Aside0.mk (blk_grown LB.out hgr (own_ne RH.out.r0 LB.out (by decide)))
          have RH := Aside0.mk (RH.out.app0 (u) hown hgr (hat.imp (fun e => e.symm) fun e => ⟨_, rfl, Nat.le_of_eq e.symm⟩))
          clear hown hgr hat hlt i0 hi0 hz0 hs0 hb0 LA
          refine hK.out _ _ ⟨(blk_cell BH.out 0).trans rfl, (blk_cell BH.out 1).trans rfl, (blk_cell B5.out 0).trans rfl, (blk_cell B5.out 1).trans rfl, (blk_cell B5.out 2).trans rfl, (blk_cell B5.out 3).trans rfl⟩ (fun hHeld => ?_)
          clear hK K
          refine norm_ (a' := ?_) ?_ ?_
          rotate_left
          · show Act.put _ (some 36) _ = _
            simp only [Act.put, List.setIfInBounds_toArray, List.set_cons_zero, List.set_cons_succ, i64_w, i32_w]
            rfl
          exact norm_ (by simp only [putAll, Act.put, List.setIfInBounds_toArray, List.set_cons_zero, List.set_cons_succ]) (hCont (gA, h7, c7, gB) _ ⟨BH.out, RH.out, LB.out⟩)
      · skip
        refine row_step (by rfl) rfl (cs := #[.int .i64 p.x, .int .i64 p.y, .int .i64 p.a, .int .i64 p.s]) (t := tP) (n := 1) ?_ ?_
        · first | (go_simp; done) | (go_simp; rfl)
        intro gB hg_ wa hbox hb
        have LB := Aside0.mk hbox
        have BH := Aside0.mk (blk_below BH.out hb)
        have RH := Aside0.mk (RH.out.below hb)
        have B5 := Aside0.mk (blk_below B5.out hb)
        clear hg_ hbox hb
        refine hK.out _ _ ⟨(blk_cell BH.out 0).trans rfl, (blk_cell BH.out 1).trans rfl, (blk_cell B5.out 0).trans rfl, (blk_cell B5.out 1).trans rfl, (blk_cell B5.out 2).trans rfl, (blk_cell B5.out 3).trans rfl⟩ (fun hHeld => ?_)
        clear hK K
        refine norm_ (a' := ?_) ?_ ?_
        rotate_left
        · show Act.put _ (some 42) _ = _
          simp only [Act.put, List.setIfInBounds_toArray, List.set_cons_zero, List.set_cons_succ, i64_w, i32_w]
          rfl
        refine one_ (i := 7) (N := some 35) #[true, true, true, true, true, true, true, true, false, true, true, true, true, true, true, false, false, false, false, false, false, false] rfl rfl (by kernel_rfl) (by decide) (fun K hK => ?_)
        refine row_step (by rfl) rfl (cs := #[.int .i64 u]) (t := 3) (n := 1) ?_ ?_
        · first | (go_simp; done) | (go_simp; rfl)
        intro gA hg_ wa hbox hb
        have LA := Aside0.mk hbox
        have BH := Aside0.mk (blk_below BH.out hb)
        have RH := Aside0.mk (RH.out.below hb)
        have B5 := Aside0.mk (blk_below B5.out hb)
        have LB := Aside0.mk (blk_below LB.out hb)
        clear hg_ hbox hb
        refine hK.out _ _ ⟨(blk_cell BH.out 0).trans rfl, (blk_cell BH.out 1).trans rfl, (blk_cell B5.out 0).trans rfl, (blk_cell B5.out 1).trans rfl, (blk_cell B5.out 2).trans rfl, (blk_cell B5.out 3).trans rfl⟩ (fun hHeld => ?_)
        clear hK K
        refine norm_ (a' := ?_) ?_ ?_
        rotate_left
        · show Act.put _ (some 35) _ = _
          simp only [Act.put, List.setIfInBounds_toArray, List.set_cons_zero, List.set_cons_succ, i64_w, i32_w]
          rfl
        refine one_ (i := 8) (N := some 36) #[true, true, true, true, true, true, true, true, true, true, true, true, true, true, true, false, false, false, false, false, false, false] rfl rfl (by kernel_rfl) (by decide) (fun K hK => ?_)
        obtain ⟨i0, hi0, hz0, hs0, hb0⟩ := info_int
        refine step_append_lies _ rfl (.tmp 33) (.tmp 35) 48 rfl W0.heap.size 3 i0 _ 1 8 Try.underlying48 hi0 hz0 hs0 hb0 rfl (by decide) (.slice A0 up.length c0) up.length (up.map (Value.int .i64)) rfl RH.out.r0 ⟨gA, 0, none⟩ 1 1 [.int .i64 u] rfl rfl (by simpa using World.news_of_block LA.out) (by simp [Value.oneCell']) (by decide) (by have := HL.out; have := H1.out; have := H2.out; have := H3.out; unfold maxLen; omega) (by have := HL.out; have := H1.out; have := H2.out; have := H3.out; omega) RH.out.bel.size _ rfl ?_
        intro h7 c7 wb hown hgr hat hlt
        have BH := Aside0.mk (blk_grown BH.out hgr (own_ne RH.out.r0 BH.out (by decide)))
        have B5 := Aside0.mk (blk_grown B5.out hgr (own_ne RH.out.r0 B5.out (by decide)))
        have LB := Aside0.mk (blk_grown LB.out hgr (own_ne RH.out.r0 LB.out (by decide)))
        have RH := Aside0.mk (RH.out.app0 (u) hown hgr (hat.imp (fun e => e.symm) fun e => ⟨_, rfl, Nat.le_of_eq e.symm⟩))
        clear hown hgr hat hlt i0 hi0 hz0 hs0 hb0 LA
        refine hK.out _ _ ⟨(blk_cell BH.out 0).trans rfl, (blk_cell BH.out 1).trans rfl, (blk_cell B5.out 0).trans rfl, (blk_cell B5.out 1).trans rfl, (blk_cell B5.out 2).trans rfl, (blk_cell B5.out 3).trans rfl⟩ (fun hHeld => ?_)
        clear hK K
        refine norm_ (a' := ?_) ?_ ?_
        rotate_left
        · show Act.put _ (some 36) _ = _
          simp only [Act.put, List.setIfInBounds_toArray, List.set_cons_zero, List.set_cons_succ, i64_w, i32_w]
          rfl
        exact norm_ (by simp only [putAll, Act.put, List.setIfInBounds_toArray, List.set_cons_zero, List.set_cons_succ]) (hCont (gA, h7, c7, gB) _ ⟨BH.out, RH.out, LB.out⟩)
    rintro ⟨gA, h7, c7, gB⟩ wz ⟨hB_, hR_, hL_⟩
    have BH := Aside0.mk hB_
    have RH := Aside0.mk hR_
    have LB := Aside0.mk hL_
    clear hB_ hR_ hL_
    refine norm_ (a' := ?_) ?_ ?_
    rotate_left
    · simp only [putAll, Act.put, List.setIfInBounds_toArray, List.set_cons_zero, List.set_cons_succ]
      rfl
    refine last_ (i := 15) (N := some 43) #[true, true, true, true, true, true, true, true, true, true, true, true, true, true, true, true, false, false, false, false, false, false] rfl rfl (by kernel_rfl) (by decide) (fun K hK => ?_)
    obtain ⟨i0, hi0, hz0, hs0, hb0⟩ := info_place
    refine step_append_lies _ rfl (.tmp 40) (.tmp 42) 61 rfl W0.heap.size tP i0 _ 4 32 Try.underlying61 hi0 hz0 hs0 hb0 rfl (by decide) (v1) own.length (flat own) rfl RH.out.r1 ⟨gB, 0, none⟩ 1 1 [.int .i64 p.x, .int .i64 p.y, .int .i64 p.a, .int .i64 p.s] rfl rfl (by simpa using World.news_of_block LB.out) (by simp [Value.oneCell']) (by decide) (by have := HL.out; have := H1.out; have := H2.out; have := H3.out; unfold maxLen; omega) (by have := HL.out; have := H1.out; have := H2.out; have := H3.out; omega) RH.out.bel.size _ rfl ?_
    intro k7 e7 wb hown hgr hat hlt
    have BH := Aside0.mk (blk_grown BH.out hgr (own_ne RH.out.r1 BH.out (by decide)))
    have RH := Aside0.mk (RH.out.app1 (p) hown hgr (hat.imp (fun e => e.symm) fun e => ⟨_, rfl, Nat.le_of_eq e.symm⟩))
    clear hown hgr hat hlt i0 hi0 hz0 hs0 hb0 LB
    refine hK.out _ _ ?_
    clear hK K
    refine norm_ (a' := ?_) ?_ ?_
    rotate_left
    · show Act.put _ (some 43) _ = _
      simp only [Act.put, List.setIfInBounds_toArray, List.set_cons_zero, List.set_cons_succ, i64_w, i32_w]
      rfl
    refine pure_ (i := 16) (N := some 44) (v := ?_) (a' := ?_) #[true, true, true, true, true, true, true, true, true, true, true, true, true, true, true, true, true, false, false, false, false, false] rfl rfl (by kernel_rfl) (fun _ _ _ h => h) (Or.inl ⟨by rfl, ?_⟩) ?_ ?_
    rotate_left
    · intro w'
      go_simp
      with_reducible rfl
    rotate_left
    · simp only [Act.put, List.setIfInBounds_toArray, List.set_cons_zero, List.set_cons_succ, i64_w, i32_w]
      rfl
    refine pure_ (i := 17) (N := some 45) (v := ?_) (a' := ?_) #[true, true, true, true, true, true, true, true, true, true, true, true, true, true, true, true, true, true, false, false, false, false] rfl rfl (by kernel_rfl) (fun _ _ _ h => h) (Or.inl ⟨by rfl, ?_⟩) ?_ ?_
    rotate_left
    · intro w'
      go_simp
      with_reducible rfl
    rotate_left
    · simp only [Act.put, List.setIfInBounds_toArray, List.set_cons_zero, List.set_cons_succ, i64_w, i32_w]
      rfl
    refine last_ (i := 18) (N := none) #[true, true, true, true, true, true, true, true, true, true, true, true, true, true, true, true, true, true, true, false, false, false] rfl rfl (by kernel_rfl) (by decide) (fun K hK => ?_)
    have cz := (blk_cell BH.out 0).trans rfl
    have fz := blk_frozen BH.out 0
    refine skip_ (w1 := ?_) (by rfl) rfl ?_ ?_
    rotate_left
    · go_simp
      rfl
    clear cz fz
    have RH := Aside0.mk (RH.out.far (i := 0) BH.out (by decide) (by decide) (by decide) HG.out HE.out (.slice (some ⟨h7, 0, none⟩) (up.length + 1) c7))
    have BH := Aside0.mk (blk_put (cs' := #[.slice (some ⟨h7, 0, none⟩) (up.length + 1) c7, v1, v2, v3, .int .i64 n]) BH.out 0 (.slice (some ⟨h7, 0, none⟩) (up.length + 1) c7) rfl)
    refine hK.out _ _ ?_
    clear hK K
    refine pure_ (i := 19) (N := some 46) (v := ?_) (a' := ?_) #[true, true, true, true, true, true, true, true, true, true, true, true, true, true, true, true, true, true, true, true, false, false] rfl rfl (by kernel_rfl) (fun _ _ _ h => h) (Or.inl ⟨by rfl, ?_⟩) ?_ ?_
    rotate_left
    · intro w'
      go_simp
      with_reducible rfl
    rotate_left
    · simp only [Act.put, List.setIfInBounds_toArray, List.set_cons_zero, List.set_cons_succ, i64_w, i32_w]
      rfl
    refine pure_ (i := 20) (N := some 47) (v := ?_) (a' := ?_) #[true, true, true, true, true, true, true, true, true, true, true, true, true, true, true, true, true, true, true, true, true, false] rfl rfl (by kernel_rfl) (fun _ _ _ h => h) (Or.inl ⟨by rfl, ?_⟩) ?_ ?_
    rotate_left
    · intro w'
      go_simp
      with_reducible rfl
    rotate_left
    · simp only [Act.put, List.setIfInBounds_toArray, List.set_cons_zero, List.set_cons_succ, i64_w, i32_w]
      rfl
    refine last_ (i := 21) (N := none) #[true, true, true, true, true, true, true, true, true, true, true, true, true, true, true, true, true, true, true, true, true, true] rfl rfl (by kernel_rfl) (by decide) (fun K hK => ?_)
    have cz := (blk_cell BH.out 1).trans rfl
    have fz := blk_frozen BH.out 1
    refine skip_ (w1 := ?_) (by rfl) rfl ?_ ?_
    rotate_left
    · go_simp
      rfl
    clear cz fz
    have RH := Aside0.mk (RH.out.far (i := 1) BH.out (by decide) (by decide) (by decide) HG.out HE.out (.slice (some ⟨k7, 0, none⟩) (own.length + 1) e7))
    have BH := Aside0.mk (blk_put (cs' := #[.slice (some ⟨h7, 0, none⟩) (up.length + 1) c7, .slice (some ⟨k7, 0, none⟩) (own.length + 1) e7, v2, v3, .int .i64 n]) BH.out 1 (.slice (some ⟨k7, 0, none⟩) (own.length + 1) e7) rfl)
    refine hK.out _ _ ?_
    clear hK K
    refine done_ (by kernel_rfl) ?_

    generalize ((wb.setCell ⟨g, 0, none⟩ (.slice (some ⟨h7, 0, none⟩) (up.length + 1) c7)).setCell ⟨g, 1, none⟩ (.slice (some ⟨k7, 0, none⟩) (own.length + 1) e7)) = w7 at BH RH ⊢
    clear B5
    go_upto_region 8 with fail
    replace BH := Aside0.mk (blk_drew BH.out)
    replace RH := Aside0.mk (RH.out.below (Below.refl _ _).drew)
    refine start_ (n := 21) (S := fun w' => w'.cell? ⟨g, 2, none⟩ = some v2 ∧ w'.cell? ⟨g, 3, none⟩ = some v3) (ds := [14, 17, 20]) #[false, false, false, false, false, false, false, false, false, false, false, false, false, false, false, false, false, false, false, false, false] (by kernel_rfl) rfl rfl ⟨(blk_cell BH.out 2).trans rfl, (blk_cell BH.out 3).trans rfl⟩ (fun hHeld => ?_)
    generalize w7.drew = wd at BH RH hHeld ⊢
    refine pure_ (i := 0) (N := some 48) (v := ?_) (a' := ?_) #[true, false, false, false, false, false, false, false, false, false, false, false, false, false, false, false, false, false, false, false, false] rfl rfl (by kernel_rfl) (fun _ _ _ h => h) (Or.inl ⟨by rfl, ?_⟩) ?_ ?_
    rotate_left
    · intro w'
      go_simp
      with_reducible rfl
    rotate_left
    · simp only [Act.put, List.setIfInBounds_toArray, List.set_cons_zero, List.set_cons_succ, i64_w, i32_w]
      rfl
    refine pure_ (i := 1) (N := some 49) (v := ?_) (a' := ?_) #[true, true, false, false, false, false, false, false, false, false, false, false, false, false, false, false, false, false, false, false, false] rfl rfl (by kernel_rfl) (fun _ _ _ h => h) (Or.inl ⟨by rfl, ?_⟩) ?_ ?_
    rotate_left
    · intro w'
      go_simp
      with_reducible rfl
    rotate_left
    · simp only [Act.put, List.setIfInBounds_toArray, List.set_cons_zero, List.set_cons_succ, i64_w, i32_w]
      rfl
    refine pure_ (i := 2) (N := some 50) (v := ?_) (a' := ?_) #[true, true, true, false, false, false, false, false, false, false, false, false, false, false, false, false, false, false, false, false, false] rfl rfl (by kernel_rfl) (fun _ _ _ h => h) (Or.inl ⟨by rfl, ?_⟩) ?_ ?_
    rotate_left
    · intro w'
      go_simp
      with_reducible rfl
    rotate_left
    · simp only [Act.put, List.setIfInBounds_toArray, List.set_cons_zero, List.set_cons_succ, i64_w, i32_w]
      rfl
    refine pure_ (i := 3) (N := some 51) (v := ?_) (a' := ?_) #[true, true, true, true, false, false, false, false, false, false, false, false, false, false, false, false, false, false, false, false, false] rfl rfl (by kernel_rfl) (fun _ _ _ h => h) (Or.inl ⟨by rfl, ?_⟩) ?_ ?_
    rotate_left
    · intro w'
      go_simp
      with_reducible rfl
    rotate_left
    · simp only [Act.put, List.setIfInBounds_toArray, List.set_cons_zero, List.set_cons_succ, i64_w, i32_w]
      rfl
    refine pure_ (i := 4) (N := some 52) (v := ?_) (a' := ?_) #[true, true, true, true, true, false, false, false, false, false, false, false, false, false, false, false, false, false, false, false, false] rfl rfl (by kernel_rfl) (fun _ _ _ h => h) (Or.inl ⟨by rfl, ?_⟩) ?_ ?_
    rotate_left
    · intro w'
      go_simp
      with_reducible rfl
    rotate_left
    · simp only [Act.put, List.setIfInBounds_toArray, List.set_cons_zero, List.set_cons_succ, i64_w, i32_w]
      rfl
    refine pure_ (i := 8) (N := some 56) (v := ?_) (a' := ?_) #[true, true, true, true, true, false, false, false, true, false, false, false, false, false, false, false, false, false, false, false, false] rfl rfl (by kernel_rfl) (fun _ _ _ h => h) (Or.inl ⟨by rfl, ?_⟩) ?_ ?_
    rotate_left
    · intro w'
      go_simp
      with_reducible rfl
    rotate_left
    · simp only [Act.put, List.setIfInBounds_toArray, List.set_cons_zero, List.set_cons_succ, i64_w, i32_w]
      rfl
    refine pure_ (i := 9) (N := some 57) (v := ?_) (a' := ?_) #[true, true, true, true, true, false, false, false, true, true, false, false, false, false, false, false, false, false, false, false, false] rfl rfl (by kernel_rfl) (fun _ _ _ h => h) (Or.inl ⟨by rfl, ?_⟩) ?_ ?_
    rotate_left
    · intro w'
      go_simp
      with_reducible rfl
    rotate_left
    · simp only [Act.put, List.setIfInBounds_toArray, List.set_cons_zero, List.set_cons_succ, i64_w, i32_w]
      rfl
    refine pure_ (i := 10) (N := some 58) (v := ?_) (a' := ?_) #[true, true, true, true, true, false, false, false, true, true, true, false, false, false, false, false, false, false, false, false, false] rfl rfl (by kernel_rfl) (fun _ _ _ h => h) (Or.inl ⟨by rfl, ?_⟩) ?_ ?_
    rotate_left
    · intro w'
      go_simp
      with_reducible rfl
    rotate_left
    · simp only [Act.put, List.setIfInBounds_toArray, List.set_cons_zero, List.set_cons_succ, i64_w, i32_w]
      rfl
    refine pure_ (i := 12) (N := some 60) (v := ?_) (a' := ?_) #[true, true, true, true, true, false, false, false, true, true, true, false, true, false, false, false, false, false, false, false, false] rfl rfl (by kernel_rfl) (fun _ _ _ h => h) (Or.inl ⟨by rfl, ?_⟩) ?_ ?_
    rotate_left
    · intro w'
      go_simp
      with_reducible rfl
    rotate_left
    · simp only [Act.put, List.setIfInBounds_toArray, List.set_cons_zero, List.set_cons_succ, i64_w, i32_w]
      rfl
    refine take_ (i := 5) (N := some 53) (v := ?_) (a' := ?_) #[true, true, true, true, true, true, false, false, true, true, true, false, true, false, false, false, false, false, false, false, false] rfl rfl (by kernel_rfl) (fun _ _ _ h => h) (Or.inl ⟨by rfl, ?_⟩) hHeld ?_ ?_
    rotate_left
    · rintro w' ⟨s0, s1⟩
      go_simp
      with_reducible rfl
    rotate_left
    · simp only [Act.put, List.setIfInBounds_toArray, List.set_cons_zero, List.set_cons_succ, i64_w, i32_w]
      rfl
    refine take_ (i := 11) (N := some 59) (v := ?_) (a' := ?_) #[true, true, true, true, true, true, false, false, true, true, true, true, true, false, false, false, false, false, false, false, false] rfl rfl (by kernel_rfl) (fun _ _ _ h => h) (Or.inl ⟨by rfl, ?_⟩) hHeld ?_ ?_
    rotate_left
    · rintro w' ⟨s0, s1⟩
      go_simp
      with_reducible rfl
    rotate_left
    · simp only [Act.put, List.setIfInBounds_toArray, List.set_cons_zero, List.set_cons_succ, i64_w, i32_w]
      rfl
    refine join_ (σ := Nat × Nat × Nat × Nat) 7 #[true, true, true, true, true, true, true, true, true, true, true, true, true, true, false, false, false, false, false, false, false] (fun s => [(54, .slice (some ⟨s.1, 0, none⟩) 1 1), (55, .slice (some ⟨s.2.1, 0, none⟩) (kn.length + 1) s.2.2.1), (61, .slice (some ⟨s.2.2.2, 0, none⟩) 1 1)]) (fun s w' => w'.heap[g]? = some (.cells #[.slice (some ⟨h7, 0, none⟩) (up.length + 1) c7, .slice (some ⟨k7, 0, none⟩) (own.length + 1) e7, v2, v3, .int .i64 n] tG (0, 0)) ∧ RX W0 WX E (.slice (some ⟨h7, 0, none⟩) (up.length + 1) c7) (.slice (some ⟨k7, 0, none⟩) (own.length + 1) e7) (.slice (some ⟨s.2.1, 0, none⟩) (kn.length + 1) s.2.2.1) (v3) w' (up ++ [u]) (own ++ [p]) (kn ++ [false]) (wh) ∧ w'.heap[s.2.2.2]? = some (.cells #[.int .i64 0, .int .i64 0, .int .i64 0, .int .i64 0] tP (0, 0))) ?_ ?_
    rotate_left
    · intro hCont
      refine two_ (i := 6) (j := 13) (Ni := some 54) (Nj := some 61) #[true, true, true, true, true, true, true, false, true, true, true, true, true, false, false, false, false, false, false, false, false] #[true, true, true, true, true, true, false, false, true, true, true, true, true, true, false, false, false, false, false, false, false] rfl rfl rfl rfl (by kernel_rfl) (by decide) (by decide) (fun K hK => ?_) (fun K hK => ?_)
      · skip
        refine row_step (by rfl) rfl (cs := #[.bool false]) (t := 4) (n := 1) ?_ ?_
        · first | (go_simp; done) | (go_simp; rfl)
        intro gA hg_ wa hbox hb
        have LA := Aside0.mk hbox
        have BH := Aside0.mk (blk_below BH.out hb)
        have RH := Aside0.mk (RH.out.below hb)
        clear hg_ hbox hb
        refine hK.out _ _ ⟨(blk_cell BH.out 2).trans rfl, (blk_cell BH.out 3).trans rfl⟩ (fun hHeld => ?_)
        clear hK K
        refine norm_ (a' := ?_) ?_ ?_
        rotate_left
        · show Act.put _ (some 54) _ = _
          simp only [Act.put, List.setIfInBounds_toArray, List.set_cons_zero, List.set_cons_succ, i64_w, i32_w]
          rfl
        refine two_ (i := 7) (j := 13) (Ni := some 55) (Nj := some 61) #[true, true, true, true, true, true, true, true, true, true, true, true, true, false, false, false, false, false, false, false, false] #[true, true, true, true, true, true, true, false, true, true, true, true, true, true, false, false, false, false, false, false, false] rfl rfl rfl rfl (by kernel_rfl) (by decide) (by decide) (fun K hK => ?_) (fun K hK => ?_)
        · skip
          obtain ⟨i0, hi0, hz0, hs0, hb0⟩ := info_bool
          refine step_append_lies _ rfl (.tmp 53) (.tmp 54) 78 rfl W0.heap.size 4 i0 _ 1 1 Try.underlying78 hi0 hz0 hs0 hb0 rfl (by decide) (v2) kn.length (kn.map Value.bool) rfl RH.out.r2 ⟨gA, 0, none⟩ 1 1 [.bool false] rfl rfl (by simpa using World.news_of_block LA.out) (by simp [Value.oneCell']) (by decide) (by have := HL.out; have := H1.out; have := H2.out; have := H3.out; unfold maxLen; omega) (by have := HL.out; have := H1.out; have := H2.out; have := H3.out; omega) RH.out.bel.size _ rfl ?_
          intro hA capA wb hown hgr hat hlt
          have BH := Aside0.mk (blk_grown BH.out hgr (own_ne RH.out.r2 BH.out (by decide)))
          have RH := Aside0.mk (RH.out.app2 (false) hown hgr (hat.imp (fun e => e.symm) fun e => ⟨_, rfl, Nat.le_of_eq e.symm⟩))
          clear hown hgr hat hlt i0 hi0 hz0 hs0 hb0 LA
          refine hK.out _ _ ⟨(blk_cell BH.out 2).trans rfl, (blk_cell BH.out 3).trans rfl⟩ (fun hHeld => ?_)
          clear hK K
          refine norm_ (a' := ?_) ?_ ?_
          rotate_left
          · show Act.put _ (some 55) _ = _
            simp only [Act.put, List.setIfInBounds_toArray, List.set_cons_zero, List.set_cons_succ, i64_w, i32_w]
            rfl
          refine one_ (i := 13) (N := some 61) #[true, true, true, true, true, true, true, true, true, true, true, true, true, true, false, false, false, false, false, false, false] rfl rfl (by kernel_rfl) (by decide) (fun K hK => ?_)
          refine row_step (by rfl) rfl (cs := #[.int .i64 0, .int .i64 0, .int .i64 0, .int .i64 0]) (t := tP) (n := 1) ?_ ?_
          · first | (go_simp; done) | (go_simp; rfl)
          intro gB hg_ wa hbox hb
          have LB := Aside0.mk hbox
          have BH := Aside0.mk (blk_below BH.out hb)
          have RH := Aside0.mk (RH.out.below hb)
          clear hg_ hbox hb
          refine hK.out _ _ ⟨(blk_cell BH.out 2).trans rfl, (blk_cell BH.out 3).trans rfl⟩ (fun hHeld => ?_)
          clear hK K
          refine norm_ (a' := ?_) ?_ ?_
          rotate_left
          · show Act.put _ (some 61) _ = _
            simp only [Act.put, List.setIfInBounds_toArray, List.set_cons_zero, List.set_cons_succ, i64_w, i32_w]
            rfl
          exact norm_ (by simp only [putAll, Act.put, List.setIfInBounds_toArray, List.set_cons_zero, List.set_cons_succ]) (hCont (gA, hA, capA, gB) _ ⟨BH.out, RH.out, LB.out⟩)
        · skip
          refine row_step (by rfl) rfl (cs := #[.int .i64 0, .int .i64 0, .int .i64 0, .int .i64 0]) (t := tP) (n := 1) ?_ ?_
          · first | (go_simp; done) | (go_simp; rfl)
          intro gB hg_ wa hbox hb
          have LB := Aside0.mk hbox
          have BH := Aside0.mk (blk_below BH.out hb)
          have RH := Aside0.mk (RH.out.below hb)
          have LA := Aside0.mk (blk_below LA.out hb)
          clear hg_ hbox hb
          refine hK.out _ _ ⟨(blk_cell BH.out 2).trans rfl, (blk_cell BH.out 3).trans rfl⟩ (fun hHeld => ?_)
          clear hK K
          refine norm_ (a' := ?_) ?_ ?_
          rotate_left
          · show Act.put _ (some 61) _ = _
            simp only [Act.put, List.setIfInBounds_toArray, List.set_cons_zero, List.set_cons_succ, i64_w, i32_w]
            rfl
          refine one_ (i := 7) (N := some 55) #[true, true, true, true, true, true, true, true, true, true, true, true, true, true, false, false, false, false, false, false, false] rfl rfl (by kernel_rfl) (by decide) (fun K hK => ?_)
          obtain ⟨i0, hi0, hz0, hs0, hb0⟩ := info_bool
          refine step_append_lies _ rfl (.tmp 53) (.tmp 54) 78 rfl W0.heap.size 4 i0 _ 1 1 Try.underlying78 hi0 hz0 hs0 hb0 rfl (by decide) (v2) kn.length (kn.map Value.bool) rfl RH.out.r2 ⟨gA, 0, none⟩ 1 1 [.bool false] rfl rfl (by simpa using World.news_of_block LA.out) (by simp [Value.oneCell']) (by decide) (by have := HL.out; have := H1.out; have := H2.out; have := H3.out; unfold maxLen; omega) (by have := HL.out; have := H1.out; have := H2.out; have := H3.out; omega) RH.out.bel.size _ rfl ?_
          intro hA capA wb hown hgr hat hlt
          have BH := Aside0.mk (blk_grown BH.out hgr (own_ne RH.out.r2 BH.out (by decide)))
          have LB := Aside0.mk (blk_grown LB.out hgr (own_ne RH.out.r2 LB.out (by decide)))
          have RH := Aside0.mk (RH.out.app2 (false) hown hgr (hat.imp (fun e => e.symm) fun e => ⟨_, rfl, Nat.le_of_eq e.symm⟩))
          clear hown hgr hat hlt i0 hi0 hz0 hs0 hb0 LA
          refine hK.out _ _ ⟨(blk_cell BH.out 2).trans rfl, (blk_cell BH.out 3).trans rfl⟩ (fun hHeld => ?_)
          clear hK K
          refine norm_ (a' := ?_) ?_ ?_
          rotate_left
          · show Act.put _ (some 55) _ = _
            simp only [Act.put, List.setIfInBounds_toArray, List.set_cons_zero, List.set_cons_succ, i64_w, i32_w]
            rfl
          exact norm_ (by simp only [putAll, Act.put, List.setIfInBounds_toArray, List.set_cons_zero, List.set_cons_succ]) (hCont (gA, hA, capA, gB) _ ⟨BH.out, RH.out, LB.out⟩)
      · skip
        refine row_step (by rfl) rfl (cs := #[.int .i64 0, .int .i64 0, .int .i64 0, .int .i64 0]) (t := tP) (n := 1) ?_ ?_
        · first | (go_simp; done) | (go_simp; rfl)
        intro gB hg_ wa hbox hb
        have LB := Aside0.mk hbox
        have BH := Aside0.mk (blk_below BH.out hb)
        have RH := Aside0.mk (RH.out.below hb)
        clear hg_ hbox hb
        refine hK.out _ _ ⟨(blk_cell BH.out 2).trans rfl, (blk_cell BH.out 3).trans rfl⟩ (fun hHeld => ?_)
        clear hK K
        refine norm_ (a' := ?_) ?_ ?_
        rotate_left
        · show Act.put _ (some 61) _ = _
          simp only [Act.put, List.setIfInBounds_toArray, List.set_cons_zero, List.set_cons_succ, i64_w, i32_w]
          rfl
        refine one_ (i := 6) (N := some 54) #[true, true, true, true, true, true, true, false, true, true, true, true, true, true, false, false, false, false, false, false, false] rfl rfl (by kernel_rfl) (by decide) (fun K hK => ?_)
        refine row_step (by rfl) rfl (cs := #[.bool false]) (t := 4) (n := 1) ?_ ?_
        · first | (go_simp; done) | (go_simp; rfl)
        intro gA hg_ wa hbox hb
        have LA := Aside0.mk hbox
        have BH := Aside0.mk (blk_below BH.out hb)
        have RH := Aside0.mk (RH.out.below hb)
        have LB := Aside0.mk (blk_below LB.out hb)
        clear hg_ hbox hb
        refine hK.out _ _ ⟨(blk_cell BH.out 2).trans rfl, (blk_cell BH.out 3).trans rfl⟩ (fun hHeld => ?_)
        clear hK K
        refine norm_ (a' := ?_) ?_ ?_
        rotate_left
        · show Act.put _ (some 54) _ = _
          simp only [Act.put, List.setIfInBounds_toArray, List.set_cons_zero, List.set_cons_succ, i64_w, i32_w]
          rfl
        refine one_ (i := 7) (N := some 55) #[true, true, true, true, true, true, true, true, true, true, true, true, true, true, false, false, false, false, false, false, false] rfl rfl (by kernel_rfl) (by decide) (fun K hK => ?_)
        obtain ⟨i0, hi0, hz0, hs0, hb0⟩ := info_bool
        refine step_append_lies _ rfl (.tmp 53) (.tmp 54) 78 rfl W0.heap.size 4 i0 _ 1 1 Try.underlying78 hi0 hz0 hs0 hb0 rfl (by decide) (v2) kn.length (kn.map Value.bool) rfl RH.out.r2 ⟨gA, 0, none⟩ 1 1 [.bool false] rfl rfl (by simpa using World.news_of_block LA.out) (by simp [Value.oneCell']) (by decide) (by have := HL.out; have := H1.out; have := H2.out; have := H3.out; unfold maxLen; omega) (by have := HL.out; have := H1.out; have := H2.out; have := H3.out; omega) RH.out.bel.size _ rfl ?_
        intro hA capA wb hown hgr hat hlt
        have BH := Aside0.mk (blk_grown BH.out hgr (own_ne RH.out.r2 BH.out (by decide)))
        have LB := Aside0.mk (blk_grown LB.out hgr (own_ne RH.out.r2 LB.out (by decide)))
        have RH := Aside0.mk (RH.out.app2 (false) hown hgr (hat.imp (fun e => e.symm) fun e => ⟨_, rfl, Nat.le_of_eq e.symm⟩))
        clear hown hgr hat hlt i0 hi0 hz0 hs0 hb0 LA
        refine hK.out _ _ ⟨(blk_cell BH.out 2).trans rfl, (blk_cell BH.out 3).trans rfl⟩ (fun hHeld => ?_)
        clear hK K
        refine norm_ (a' := ?_) ?_ ?_
        rotate_left
        · show Act.put _ (some 55) _ = _
          simp only [Act.put, List.setIfInBounds_toArray, List.set_cons_zero, List.set_cons_succ, i64_w, i32_w]
          rfl
        exact norm_ (by simp only [putAll, Act.put, List.setIfInBounds_toArray, List.set_cons_zero, List.set_cons_succ]) (hCont (gA, hA, capA, gB) _ ⟨BH.out, RH.out, LB.out⟩)
    rintro ⟨gA, hA, capA, gB⟩ wz ⟨hB_, hR_, hL_⟩
    have BH := Aside0.mk hB_
    have RH := Aside0.mk hR_
    have LB := Aside0.mk hL_
    clear hB_ hR_ hL_
    refine norm_ (a' := ?_) ?_ ?_
    rotate_left
    · simp only [putAll, Act.put, List.setIfInBounds_toArray, List.set_cons_zero, List.set_cons_succ]
      rfl
    refine last_ (i := 14) (N := some 62) #[true, true, true, true, true, true, true, true, true, true, true, true, true, true, true, false, false, false, false, false, false] rfl rfl (by kernel_rfl) (by decide) (fun K hK => ?_)
    obtain ⟨i0, hi0, hz0, hs0, hb0⟩ := info_place
    refine step_append_lies _ rfl (.tmp 59) (.tmp 61) 61 rfl W0.heap.size tP i0 _ 4 32 Try.underlying61 hi0 hz0 hs0 hb0 rfl (by decide) (v3) wh.length (flat wh) rfl RH.out.r3 ⟨gB, 0, none⟩ 1 1 [.int .i64 0, .int .i64 0, .int .i64 0, .int .i64 0] rfl rfl (by simpa using World.news_of_block LB.out) (by simp [Value.oneCell']) (by decide) (by have := HL.out; have := H1.out; have := H2.out; have := H3.out; unfold maxLen; omega) (by have := HL.out; have := H1.out; have := H2.out; have := H3.out; omega) RH.out.bel.size _ rfl ?_
    intro hB capB wb hown hgr hat hlt
    have BH := Aside0.mk (blk_grown BH.out hgr (own_ne RH.out.r3 BH.out (by decide)))
    have RH := Aside0.mk (RH.out.app3 (pl0) hown hgr (hat.imp (fun e => e.symm) fun e => ⟨_, rfl, Nat.le_of_eq e.symm⟩))
    clear hown hgr hat hlt i0 hi0 hz0 hs0 hb0 LB
    refine hK.out _ _ ?_
    clear hK K
    refine norm_ (a' := ?_) ?_ ?_
    rotate_left
    · show Act.put _ (some 62) _ = _
      simp only [Act.put, List.setIfInBounds_toArray, List.set_cons_zero, List.set_cons_succ, i64_w, i32_w]
      rfl
    refine pure_ (i := 15) (N := some 63) (v := ?_) (a' := ?_) #[true, true, true, true, true, true, true, true, true, true, true, true, true, true, true, true, false, false, false, false, false] rfl rfl (by kernel_rfl) (fun _ _ _ h => h) (Or.inl ⟨by rfl, ?_⟩) ?_ ?_
    rotate_left
    · intro w'
      go_simp
      with_reducible rfl
    rotate_left
    · simp only [Act.put, List.setIfInBounds_toArray, List.set_cons_zero, List.set_cons_succ, i64_w, i32_w]
      rfl
    refine pure_ (i := 16) (N := some 64) (v := ?_) (a' := ?_) #[true, true, true, true, true, true, true, true, true, true, true, true, true, true, true, true, true, false, false, false, false] rfl rfl (by kernel_rfl) (fun _ _ _ h => h) (Or.inl ⟨by rfl, ?_⟩) ?_ ?_
    rotate_left
    · intro w'
      go_simp
      with_reducible rfl
    rotate_left
    · simp only [Act.put, List.setIfInBounds_toArray, List.set_cons_zero, List.set_cons_succ, i64_w, i32_w]
      rfl
    refine last_ (i := 17) (N := none) #[true, true, true, true, true, true, true, true, true, true, true, true, true, true, true, true, true, true, false, false, false] rfl rfl (by kernel_rfl) (by decide) (fun K hK => ?_)
    have cz := (blk_cell BH.out 2).trans rfl
    have fz := blk_frozen BH.out 2
    refine skip_ (w1 := ?_) (by rfl) rfl ?_ ?_
    rotate_left
    · go_simp
      rfl
    clear cz fz
    have RH := Aside0.mk (RH.out.far (i := 2) BH.out (by decide) (by decide) (by decide) HG.out HE.out (.slice (some ⟨hA, 0, none⟩) (kn.length + 1) capA))
    have BH := Aside0.mk (blk_put (cs' := #[.slice (some ⟨h7, 0, none⟩) (up.length + 1) c7, .slice (some ⟨k7, 0, none⟩) (own.length + 1) e7, .slice (some ⟨hA, 0, none⟩) (kn.length + 1) capA, v3, .int .i64 n]) BH.out 2 (.slice (some ⟨hA, 0, none⟩) (kn.length + 1) capA) rfl)
    refine hK.out _ _ ?_
    clear hK K
    refine pure_ (i := 18) (N := some 65) (v := ?_) (a' := ?_) #[true, true, true, true, true, true, true, true, true, true, true, true, true, true, true, true, true, true, true, false, false] rfl rfl (by kernel_rfl) (fun _ _ _ h => h) (Or.inl ⟨by rfl, ?_⟩) ?_ ?_
    rotate_left
    · intro w'
      go_simp
      with_reducible rfl
    rotate_left
    · simp only [Act.put, List.setIfInBounds_toArray, List.set_cons_zero, List.set_cons_succ, i64_w, i32_w]
      rfl
    refine pure_ (i := 19) (N := some 66) (v := ?_) (a' := ?_) #[true, true, true, true, true, true, true, true, true, true, true, true, true, true, true, true, true, true, true, true, false] rfl rfl (by kernel_rfl) (fun _ _ _ h => h) (Or.inl ⟨by rfl, ?_⟩) ?_ ?_
    rotate_left
    · intro w'
      go_simp
      with_reducible rfl
    rotate_left
    · simp only [Act.put, List.setIfInBounds_toArray, List.set_cons_zero, List.set_cons_succ, i64_w, i32_w]
      rfl
    refine last_ (i := 20) (N := none) #[true, true, true, true, true, true, true, true, true, true, true, true, true, true, true, true, true, true, true, true, true] rfl rfl (by kernel_rfl) (by decide) (fun K hK => ?_)
    have cz := (blk_cell BH.out 3).trans rfl
    have fz := blk_frozen BH.out 3
    refine skip_ (w1 := ?_) (by rfl) rfl ?_ ?_
    rotate_left
    · go_simp
      rfl
    clear cz fz
    have RH := Aside0.mk (RH.out.far (i := 3) BH.out (by decide) (by decide) (by decide) HG.out HE.out (.slice (some ⟨hB, 0, none⟩) (wh.length + 1) capB))
    have BH := Aside0.mk (blk_put (cs' := #[.slice (some ⟨h7, 0, none⟩) (up.length + 1) c7, .slice (some ⟨k7, 0, none⟩) (own.length + 1) e7, .slice (some ⟨hA, 0, none⟩) (kn.length + 1) capA, .slice (some ⟨hB, 0, none⟩) (wh.length + 1) capB, .int .i64 n]) BH.out 3 (.slice (some ⟨hB, 0, none⟩) (wh.length + 1) capB) rfl)
    refine hK.out _ _ ?_
    clear hK K
    refine done_ (by kernel_rfl) ?_

    generalize ((wb.setCell ⟨g, 2, none⟩ (.slice (some ⟨hA, 0, none⟩) (kn.length + 1) capA)).setCell ⟨g, 3, none⟩ (.slice (some ⟨hB, 0, none⟩) (wh.length + 1) capB)) = w8 at BH RH ⊢
    have e9 : w8.cell? ⟨g, 0, none⟩ = some (.slice (some ⟨h7, 0, none⟩) (up.length + 1) c7) := (blk_cell BH.out 0).trans rfl
    have n9 : wrap64 (up.length : Int) = up.length := by unfold wrap64; have := HL.out; omega
    go_upto_region 9 with fail
    go_cut [6, 7] (fun v6 v7 w' => v6 = .int .i64 up.length ∧ v7 = .int .i64 0 ∧ w' = w8)
    case first =>
      go_wp2_with fail
      go_meet
      exact ⟨rfl, rfl, rfl⟩
    case rest =>
      obtain ⟨rfl, rfl, rfl⟩ := hcut
      go_wp2
      go_ret2
      exact ⟨rfl, _, _, _, _, BH.out, RH.out⟩
/-- What a thing more leaves as it was: all blocks but the box and the rows. -/
def Kv (g : Nat) (v0 v1 v2 v3 : Value) (w : World) (j : Nat) : Prop := j < w.heap.size ∧ j ≠ g ∧ v0.ownBlock ≠ some j ∧ v1.ownBlock ≠ some j ∧ v2.ownBlock ≠ some j ∧ v3.ownBlock ≠ some j
theorem RW.whole {W0 w : World} {g : Nat} {v0 v1 v2 v3 : Value} {up : List Int} {own : List Pl} {kn : List Bool} {wh : List Pl} (h : RW W0 v0 v1 v2 v3 w up own kn wh) : RX W0 w (Kv g v0 v1 v2 v3 w) v0 v1 v2 v3 w up own kn wh :=
  ⟨h, Nat.le_refl _, fun j hj => ⟨hj.1, rfl⟩, fun j hj => hj.2.2.1, fun j hj => hj.2.2.2.1, fun j hj => hj.2.2.2.2.1, fun j hj => hj.2.2.2.2.2⟩
theorem Add_in {W0 : World} {g : Nat} {v0 v1 v2 v3 : Value} (k : Nat) (up : List Int) (own : List Pl) (kn : List Bool) (wh : List Pl) (n u : Int) (p : Pl) (hl : up.length < 100) (h1 : own.length = up.length) (h2 : kn.length = up.length) (h3 : wh.length = up.length) (hu0 : -1 ≤ u) (hu1 : u < up.length) (hfit : graph_fits.f k p.x p.y p.a p.s = some true)
    (w : World) (hB : w.heap[g]? = some (.cells #[v0, v1, v2, v3, .int .i64 n] tG (0, 0))) (hg : W0.heap.size ≤ g) (hR : RW W0 v0 v1 v2 v3 w up own kn wh) :
    Calls Try.prog 31 #[.pointer (some ⟨g, 0, none⟩), .int .i64 u, .agg #[.int .i64 p.x, .int .i64 p.y, .int .i64 p.a, .int .i64 p.s]] w fun e w' => e = .returned (.tuple #[.int .i64 up.length, .int .i64 0]) ∧ ∃ v0' v1' v2' v3' : Value, w'.heap[g]? = some (.cells #[v0', v1', v2', v3', .int .i64 n] tG (0, 0)) ∧ RW W0 v0' v1' v2' v3' w' (up ++ [u]) (own ++ [p]) (kn ++ [false]) (wh ++ [pl0]) :=
  (Add_x (E := fun _ => False) k up own kn wh n u p hl h1 h2 h3 hu0 hu1 hfit w hB hg id ⟨hR, Nat.le_refl _, fun _ h => h.elim, fun _ h => h.elim, fun _ h => h.elim, fun _ h => h.elim, fun _ h => h.elim⟩).mono fun e w' ⟨he, a, b, c, d, h1, h2⟩ => ⟨he, a, b, c, d, h1, h2.rw⟩
end Go.Proofs.Ytdopeneehminaaa.GraphAddGraphPlays
