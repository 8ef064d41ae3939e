/- The memory of the reference's Think: minds in memory, what stays of a call's own boxes. Under no condition but what stands at each. -/
import Derived.Test.YtbpgfjfkogdolaaTreeMindTreeTells
import Derived.Test.YtbpgfjfkogdolaaTreeStepsTreeTells
namespace Go.Proofs.Ytbpgfjfkogdolaa.TreeThinkMemTreeTells
open Go Go.RowKit Go.Proofs.YtbpgfjfkogdolaaW.PrintWords Go.Proofs.YtbpgfjfkogdolaaW.PrintLast Go.Proofs.YtbpgfjfkogdolaaW.PrintMore Go.Proofs.Ytbpgfjfkogdolaa.PTreeTells Go.Proofs.Ytbpgfjfkogdolaa.Fnv Go.Proofs.Ytbpgfjfkogdolaa.TreePlainTreeTells Go.Proofs.Ytbpgfjfkogdolaa.TreeMemTreeTells Go.Proofs.Ytbpgfjfkogdolaa.TreeMindTreeTells Go.Proofs.Ytbpgfjfkogdolaa.TreeThinkTreeTells Go.Proofs.Ytbpgfjfkogdolaa.TreeStepsTreeTells Go.Proofs.Ytbpgfjfkogdolaa.TreeTopTreeTells
set_option linter.unusedVariables false
set_option linter.unusedSimpArgs false
/-- The kids of a mind, in memory that only blocks of ok make up. -/
abbrev FM (W0 : World) (ok : Nat → Prop) (A : Option Addr) (l : List Md) : Prop := Kd.F k40 W0 ok A l.length l
theorem FM.elem {W0 : World} {ok : Nat → Prop} {A : Option Addr} {l : List Md} (h : FM W0 ok A l) (i : Int) (h0 : 0 ≤ i) (h1 : i < l.length) : ∃ ad A1 c1, A = some ad ∧ (rdM l i).f1.length ≤ c1 ∧ FM W0 ok A1 (rdM l i).f1 ∧
    W0.cell? (ad.add (i.toNat * 2)) = some (.int .i64 (rdM l i).f0) ∧ W0.cell? ⟨(ad.add (i.toNat * 2)).block, (ad.add (i.toNat * 2)).off + 1, none⟩ = some (.slice A1 (rdM l i).f1.length c1) := by
  obtain ⟨ad, c, rfl, hl, hF, hc0, hok⟩ := Kd.F_get h z40 i h0 h1
  have hc : ∀ j u, c[j]? = some u → W0.cell? (ad.add (i.toNat * 2 + j)) = some u := hc0
  obtain ⟨A1, c1, rfl, l1, g1⟩ := k40_openF hF
  refine ⟨ad, A1, c1, rfl, l1, g1, hc 0 _ rfl, ?_⟩
  rw [← add_field _ _ 1 (by omega)]
  exact hc 1 _ rfl
theorem FM.elem0 {W0 : World} {ok : Nat → Prop} {A : Option Addr} {l : List Md} (h : FM W0 ok A l) (h1 : 0 < l.length) : ∃ ad A1 c1, A = some ad ∧ (rdM l 0).f1.length ≤ c1 ∧ FM W0 ok A1 (rdM l 0).f1 ∧
    W0.cell? ad = some (.int .i64 (rdM l 0).f0) ∧ W0.cell? ⟨ad.block, ad.off + 1, none⟩ = some (.slice A1 (rdM l 0).f1.length c1) := by
  obtain ⟨ad, A1, c1, rfl, hc, hT, h2, h3⟩ := h.elem 0 (by omega) (by omega)
  have e : ad.add (Int.toNat 0 * 2) = ad := by simp [Addr.add]
  rw [e] at h2 h3
  exact ⟨ad, A1, c1, rfl, hc, hT, h2, h3⟩
/-- A row of minds in one block. -/
theorem FM_of {Q : Nat → Prop} {w : World} {g : Nat} {cs : Array Value} (hQ : Q g) (xs : List Md) (hb : w.heap[g]? = some (.cells cs 40 (0, 0))) (hn : xs.length ≤ 1000000) (hp : 0 < xs.length)
    (h : ∀ j x, xs[j]? = some x → ∃ A c, x.f1.length ≤ c ∧ FM w Q A x.f1 ∧ cs[j * 2]? = some (.int .i64 x.f0) ∧ cs[j * 2 + 1]? = some (.slice A x.f1.length c)) : FM w Q (some ⟨g, 0, none⟩) xs := by
  intro W' hW
  refine ⟨rfl, by omega, fun _ => ⟨_, rfl, fun j x hj => ?_⟩⟩
  obtain ⟨A, c, hc, hT, h0, h1⟩ := h j x hj
  refine ⟨_, ?_, k40_mk W' x hc (hT W' hW), ?_⟩
  · rfl
  · intro i u hi
    have hlt := blk_lt hb
    have hg : W'.heap[g]? = some (.cells cs 40 (0, 0)) := (hW g hQ hlt).trans hb
    have e : (Addr.add ⟨g, 0, none⟩ (j * 2 + i)) = ⟨g, j * 2 + i, none⟩ := by
      unfold Addr.add
      split
      · next h0 => simp at h0; simp
      · simp
    show W'.cell? (Addr.add ⟨g, 0, none⟩ (j * 2 + i)) = _
    rw [e, blk_cell hg]
    match i, hi with
    | 0, hi => exact h0.trans hi
    | 1, hi => exact h1.trans hi
/-- A row of minds of the call's own. -/
def RowM (w : World) (Q : Nat → Prop) (g : Nat) (l : List Md) : Prop :=
  ∃ cs : Array Value, w.heap[g]? = some (.cells cs 40 (0, 0)) ∧ ∀ j x, l[j]? = some x → ∃ A c, x.f1.length ≤ c ∧ FM w Q A x.f1 ∧ cs[j * 2]? = some (.int .i64 x.f0) ∧ cs[j * 2 + 1]? = some (.slice A x.f1.length c)
theorem row_of {w : World} {base : Nat} {ok : Nat → Prop} {v : Value} {l : List Md} (h : Kd.R k40 40 w base ok v l) (hp : 0 < l.length) :
    ∃ g cap, v = .slice (some ⟨g, 0, none⟩) l.length cap ∧ base ≤ g ∧ RowM w (fun k => ok k ∧ k ≠ g) g l := by
  have hN := Kd.R_N h
  obtain ⟨g, cap, rfl, hg, hlt, cs, hcs⟩ := Kd.N_form hN hp
  refine ⟨g, cap, rfl, hg, cs, hcs, fun j x hj => ?_⟩
  have hjl : j < l.length := (List.getElem?_eq_some_iff.1 hj).1
  obtain ⟨c, hcl, hF, hcc, _⟩ := Kd.N_elem hN z40 (j : Int) (by omega) (by omega)
  have e : l.getD ((j : Int)).toNat z40 = x := by simp [List.getD_eq_getElem?_getD, hj]
  rw [e] at hF
  obtain ⟨A1, c1, rfl, l1, g1⟩ := k40_openF hF
  have hc0 := hcc 0 _ rfl
  have hc1 := hcc 1 _ rfl
  have e0 : (⟨g, ((j : Int)).toNat * (k40).sz + 0, none⟩ : Addr) = ⟨g, j * 2, none⟩ := rfl
  have e1 : (⟨g, ((j : Int)).toNat * (k40).sz + 1, none⟩ : Addr) = ⟨g, j * 2 + 1, none⟩ := rfl
  rw [e0, blk_cell hcs] at hc0
  rw [e1, blk_cell hcs] at hc1
  exact ⟨A1, c1, l1, g1, hc0, hc1⟩
theorem RowM.lt {w : World} {Q : Nat → Prop} {g : Nat} {l : List Md} (h : RowM w Q g l) : g < w.heap.size := by
  obtain ⟨cs, h1, _⟩ := h
  exact blk_lt h1
theorem RowM.step {w w1 : World} {Q : Nat → Prop} {g : Nat} {l : List Md} (h : RowM w Q g l) (hg : w1.heap[g]? = w.heap[g]?) (hm : ∀ k, Q k → k < w.heap.size → w1.heap[k]? = w.heap[k]?) : RowM w1 Q g l := by
  obtain ⟨cs, h1, h2⟩ := h
  refine ⟨cs, hg.trans h1, fun j x hj => ?_⟩
  obtain ⟨A, c, hc, hF, h3⟩ := h2 j x hj
  exact ⟨A, c, hc, Kd.F_step hF hm, h3⟩
theorem RowM.below {w w1 : World} {Q : Nat → Prop} {g : Nat} {l : List Md} (h : RowM w Q g l) (hb : Below w.heap.size w w1) : RowM w1 Q g l := h.step (hb.block g h.lt) (fun k _ hk => hb.block k hk)
theorem RowM.mono {w : World} {Q Q' : Nat → Prop} {g : Nat} {l : List Md} (h : RowM w Q g l) (hq : ∀ k, Q k → Q' k) : RowM w Q' g l := by
  obtain ⟨cs, h1, h2⟩ := h
  refine ⟨cs, h1, fun j x hj => ?_⟩
  obtain ⟨A, c, hc, hF, h3⟩ := h2 j x hj
  exact ⟨A, c, hc, Kd.F_mono hF hq, h3⟩
theorem RowM.elder {w : World} {Q : Nat → Prop} {g : Nat} {l : List Md} (h : RowM w Q g l) (a : Nat) (ha : w.heap.size ≤ a) : RowM w (fun k => Q k ∧ k ≠ a) g l := by
  obtain ⟨cs, h1, h2⟩ := h
  refine ⟨cs, h1, fun j x hj => ?_⟩
  obtain ⟨A, c, hc, hF, h3⟩ := h2 j x hj
  exact ⟨A, c, hc, Kd.F_elderB hF a ha, h3⟩
theorem RowM.far {w : World} {Q : Nat → Prop} {g : Nat} {l : List Md} (h : RowM w Q g l) {p : Addr} (hg : g ≠ p.block) (hq : ∀ k, Q k → k ≠ p.block) (u : Value) : RowM (w.setCell p u) Q g l :=
  h.step (Below.heap_setCell w p u g hg) (fun k hk _ => Below.heap_setCell w p u k (hq k hk))
/-- The row's cells at i. -/
theorem RowM.cells {w : World} {Q : Nat → Prop} {g : Nat} {l : List Md} (h : RowM w Q g l) (i : Nat) (hi : i < l.length) : ∃ v0 v1 : Value, w.cell? ⟨g, i * 2, none⟩ = some v0 ∧ w.cell? ⟨g, i * 2 + 1, none⟩ = some v1 ∧ ∀ j, w.frozen? ⟨g, j, none⟩ = false := by
  obtain ⟨cs, h1, h2⟩ := h
  obtain ⟨A, c, hc, hF, h3, h4⟩ := h2 i l[i] (List.getElem?_eq_getElem hi)
  exact ⟨_, _, (blk_cell h1 _).trans h3, (blk_cell h1 _).trans h4, fun j => blk_frozen h1 j⟩
/-- A mind is laid into the row. -/
theorem RowM.set {w : World} {Q : Nat → Prop} {g : Nat} {l : List Md} (h : RowM w Q g l) (hQ : ∀ k, Q k → k ≠ g) (i : Nat) (hi : i < l.length) (x : Md) {A : Option Addr} {c : Nat} (hc : x.f1.length ≤ c) (hF : FM w Q A x.f1) :
    RowM ((w.setCell ⟨g, i * 2, none⟩ (.int .i64 x.f0)).setCell ⟨g, i * 2 + 1, none⟩ (.slice A x.f1.length c)) Q g (l.set i x) := by
  obtain ⟨cs, h1, h2⟩ := h
  have hfar : ∀ {B : Option Addr} {y : List Md}, FM w Q B y → FM ((w.setCell ⟨g, i * 2, none⟩ (.int .i64 x.f0)).setCell ⟨g, i * 2 + 1, none⟩ (.slice A x.f1.length c)) Q B y := fun hy =>
    Kd.F_far (p := ⟨g, i * 2 + 1, none⟩) (Kd.F_far (p := ⟨g, i * 2, none⟩) hy hQ _) hQ _
  have hsz : i * 2 + 1 < cs.size := by
    obtain ⟨_, _, _, _, _, h4⟩ := h2 i l[i] (List.getElem?_eq_getElem hi)
    exact (Array.getElem?_eq_some_iff.1 h4).1
  refine ⟨(cs.setIfInBounds (i * 2) (.int .i64 x.f0)).setIfInBounds (i * 2 + 1) (.slice A x.f1.length c), blk_put (blk_put h1 _ _ rfl) _ _ rfl, fun j y hj => ?_⟩
  by_cases hij : i = j
  · subst hij
    rw [List.getElem?_set_self hi] at hj
    injection hj with hj
    subst hj
    refine ⟨A, c, hc, hfar hF, ?_, ?_⟩
    · rw [Array.getElem?_setIfInBounds_ne (by omega), Array.getElem?_setIfInBounds_self_of_lt (by omega)]
    · rw [Array.getElem?_setIfInBounds_self_of_lt (by simp; omega)]
  · rw [List.getElem?_set_ne hij] at hj
    obtain ⟨A', c', hc', hF', h3, h4⟩ := h2 j y hj
    refine ⟨A', c', hc', hfar hF', ?_, ?_⟩
    · rw [Array.getElem?_setIfInBounds_ne (by omega), Array.getElem?_setIfInBounds_ne (by omega)]; exact h3
    · rw [Array.getElem?_setIfInBounds_ne (by omega), Array.getElem?_setIfInBounds_ne (by omega)]; exact h4
theorem RowM.fm {w : World} {Q Q' : Nat → Prop} {g : Nat} {l : List Md} (h : RowM w Q g l) (hq : ∀ k, Q k → Q' k) (hg : Q' g) (hn : l.length ≤ 1000000) (hp : 0 < l.length) : FM w Q' (some ⟨g, 0, none⟩) l := by
  obtain ⟨cs, h1, h2⟩ := h
  refine FM_of hg l h1 hn hp fun j x hj => ?_
  obtain ⟨A, c, hc, hF, h3⟩ := h2 j x hj
  exact ⟨A, c, hc, Kd.F_mono hF hq, h3⟩
abbrev boxN (n0 : Int) (n1 : ByteArray) (n2 : Int) (A3 : Option Addr) (L c3 : Nat) : Array Value := #[.int .i64 n0, .string n1, .int .i64 n2, .slice A3 L c3]
abbrev boxM (m0 : Int) (Am : Option Addr) (L cm : Nat) : Array Value := #[.int .i64 m0, .slice Am L cm]
/-- What stays of a call's own boxes. -/
structure Bs (Q : Nat → Prop) (W w : World) (g3 g4 g7 : Nat) (n0 : Int) (n1 : ByteArray) (n2 : Int) (n3 : List Nd) (A3 : Option Addr) (L c3 : Nat) (m0 : Int) (m1 : List Md) (Am : Option Addr) (cm : Nat) : Prop where
  bel : Below W.heap.size W w
  b3 : w.heap[g3]? = some (.cells (boxN n0 n1 n2 A3 L c3) 25 (0, 0))
  b4 : w.heap[g4]? = some (.cells (boxM m0 Am L cm) 40 (0, 0))
  b7 : w.heap[g7]? = some (.cells (boxM 0 none 0 0) 40 (0, 0))
  w3 : W.heap.size ≤ g3
  w4 : W.heap.size ≤ g4
  w7 : W.heap.size ≤ g7
  n37 : g3 ≠ g7
  n47 : g4 ≠ g7
  tn : Tr w (fun k => k < W.heap.size) A3 n3
  tm : FM w (fun k => Q k ∧ k < W.heap.size) Am m1
/-- Another box of a mind. -/
structure Bx (W w : World) (g3 g4 g7 g : Nat) (cs : Array Value) : Prop where
  b : w.heap[g]? = some (.cells cs 40 (0, 0))
  wg : W.heap.size ≤ g
  n3 : g3 ≠ g
  n4 : g4 ≠ g
  n7 : g7 ≠ g
section
variable {Q : Nat → Prop} {W w w' : World} {g3 g4 g7 g : Nat} {n0 n2 m0 : Int} {n1 : ByteArray} {n3 : List Nd} {A3 Am : Option Addr} {L c3 cm : Nat} {m1 : List Md} {cs : Array Value}
theorem Bs.below (h : Bs Q W w g3 g4 g7 n0 n1 n2 n3 A3 L c3 m0 m1 Am cm) (hb : Below w.heap.size w w') : Bs Q W w' g3 g4 g7 n0 n1 n2 n3 A3 L c3 m0 m1 Am cm :=
  ⟨h.bel.trans (hb.mono h.bel.size), blk_below h.b3 hb, blk_below h.b4 hb, blk_below h.b7 hb, h.w3, h.w4, h.w7, h.n37, h.n47, Kd.F_below h.tn hb, Kd.F_below h.tm hb⟩
theorem Bs.drew (h : Bs Q W w g3 g4 g7 n0 n1 n2 n3 A3 L c3 m0 m1 Am cm) : Bs Q W w.drew g3 g4 g7 n0 n1 n2 n3 A3 L c3 m0 m1 Am cm := h.below (Below.refl _ _).drew
theorem Bs.set (h : Bs Q W w g3 g4 g7 n0 n1 n2 n3 A3 L c3 m0 m1 Am cm) (hg : W.heap.size ≤ g) (h3 : g3 ≠ g) (h4 : g4 ≠ g) (h7 : g7 ≠ g) (i : Nat) (v : Value) : Bs Q W (w.setCell ⟨g, i, none⟩ v) g3 g4 g7 n0 n1 n2 n3 A3 L c3 m0 m1 Am cm :=
  ⟨h.bel.setCell hg v, blk_far h.b3 h3 _, blk_far h.b4 h4 _, blk_far h.b7 h7 _, h.w3, h.w4, h.w7, h.n37, h.n47, Kd.F_far (p := ⟨g, i, none⟩) h.tn (fun k hk => by show k ≠ g; omega) v, Kd.F_far (p := ⟨g, i, none⟩) h.tm (fun k hk => by show k ≠ g; have := hk.2; omega) v⟩
theorem Bs.new (h : Bs Q W w g3 g4 g7 n0 n1 n2 n3 A3 L c3 m0 m1 Am cm) (hg : w.heap.size ≤ g) (hb : w'.heap[g]? = some (.cells cs 40 (0, 0))) : Bx W w' g3 g4 g7 g cs :=
  ⟨hb, Nat.le_trans h.bel.size hg, by have := blk_lt h.b3; omega, by have := blk_lt h.b4; omega, by have := blk_lt h.b7; omega⟩
theorem Bx.below (h : Bx W w g3 g4 g7 g cs) (hb : Below w.heap.size w w') : Bx W w' g3 g4 g7 g cs := ⟨blk_below h.b hb, h.wg, h.n3, h.n4, h.n7⟩
theorem Bx.drew (h : Bx W w g3 g4 g7 g cs) : Bx W w.drew g3 g4 g7 g cs := h.below (Below.refl _ _).drew
/-- What a call within is told of its own mind's blocks. -/
theorem Bs.mind (h : Bs Q W w g3 g4 g7 n0 n1 n2 n3 A3 L c3 m0 m1 Am cm) : FM w (fun k => (Q k ∧ k ≠ g7) ∧ k < W.heap.size) Am m1 := Kd.F_mono h.tm fun k hk => ⟨⟨hk.1, by have := h.w7; have := hk.2; omega⟩, hk.2⟩
theorem Bs.free (h : Bs Q W w g3 g4 g7 n0 n1 n2 n3 A3 L c3 m0 m1 Am cm) (hQ : ∀ k, W.heap.size ≤ k → Q k) : ∀ k, w.heap.size ≤ k → Q k ∧ k ≠ g7 := fun k hk => ⟨hQ k (Nat.le_trans h.bel.size hk), by have := blk_lt h.b7; omega⟩
end
/-- The function that is asked, from a world on. -/
structure Pure (W : World) (g : FuncId) (lb : Array Value) (fn : Func) (an0 : ByteArray → Int) : Prop where
  hf : Try.prog.funcs[g]? = some fn
  hname : (fn.name == "runtime.NumGoroutine") = false
  hb : fn.body.isSome = true
  ask : ∀ (w : World) (x : ByteArray), Below W.heap.size W w → Calls Try.prog g (#[.string x] ++ lb) w fun e w' => e = .returned (.int .i64 (an0 x)) ∧ Below w.heap.size w w'
theorem Pure.later {W w : World} {g : FuncId} {lb : Array Value} {fn : Func} {an0 : ByteArray → Int} (h : Pure W g lb fn an0) (hb : Below W.heap.size W w) : Pure w g lb fn an0 :=
  ⟨h.hf, h.hname, h.hb, fun w' x hb' => h.ask w' x (hb.trans (hb'.mono hb.size))⟩
/-- A call of Think: what it returns, and where. -/
def ThinkC (an0 : ByteArray → Int) (z : Int × Md × Unit) (n : Nd) (m : Md) : Prop :=
  ∀ (Q : Nat → Prop) (w : World) (A3 : Option Addr) (c3 : Nat) (Am : Option Addr) (cm : Nat) (g : FuncId) (lb : Array Value) (fn : Func), Pure w g lb fn an0 → n.f3.length ≤ c3 → m.f1.length ≤ cm → Tr w Al A3 n.f3 → FM w Q Am m.f1 → (∀ k, w.heap.size ≤ k → Q k) →
    Calls Try.prog 18 #[.agg #[.int .i64 n.f0, .string n.f1, .int .i64 n.f2, .slice A3 n.f3.length c3], .agg #[.int .i64 m.f0, .slice Am m.f1.length cm], .func (.func g) #[] lb] w fun e w' =>
      ∃ A' c', e = .returned (.tuple #[.int .i64 z.1, .agg #[.int .i64 z.2.1.f0, .slice A' z.2.1.f1.length c']]) ∧ z.2.1.f1.length ≤ c' ∧ FM w' Q A' z.2.1.f1 ∧ Below w.heap.size w w'
/-- A call of Think within a call. -/
theorem ThinkC.within {an0 : ByteArray → Int} {z : Int × Md × Unit} {x : Nd} {y : Md} (h : ThinkC an0 z x y) {Q : Nat → Prop} {W w : World} {g3 g4 g7 : Nat} {n0 n2 m0 : Int} {n1 : ByteArray} {n3 : List Nd} {A3 Am : Option Addr} {L c3 cm : Nat} {m1 : List Md} (hB : Bs Q W w g3 g4 g7 n0 n1 n2 n3 A3 L c3 m0 m1 Am cm) (hQ : ∀ k, W.heap.size ≤ k → Q k) {q : Nat → Prop} (hq : ∀ k, k < W.heap.size ∨ w.heap.size ≤ k → q k)
    {g : FuncId} {lb : Array Value} {fn : Func} (hP : Pure W g lb fn an0) {A4 A5 : Option Addr} {c4 c5 : Nat} (h4 : x.f3.length ≤ c4) (h5 : y.f1.length ≤ c5) (hT : Tr w (fun k => k < W.heap.size) A4 x.f3) (hM : FM w (fun k => (Q k ∧ k ≠ g7) ∧ k < W.heap.size) A5 y.f1) :
    Calls Try.prog 18 #[.agg #[.int .i64 x.f0, .string x.f1, .int .i64 x.f2, .slice A4 x.f3.length c4], .agg #[.int .i64 y.f0, .slice A5 y.f1.length c5], .func (.func g) #[] lb] w fun e w' =>
      ∃ A' c', e = .returned (.tuple #[.int .i64 z.1, .agg #[.int .i64 z.2.1.f0, .slice A' z.2.1.f1.length c']]) ∧ z.2.1.f1.length ≤ c' ∧ FM w' (fun k => (Q k ∧ k ≠ g7) ∧ q k) A' z.2.1.f1 ∧ Below w.heap.size w w' :=
  h (fun k => (Q k ∧ k ≠ g7) ∧ q k) w A4 c4 A5 c5 g lb fn (hP.later hB.bel) h4 h5 (Kd.F_mono hT fun _ _ => trivial) (Kd.F_mono hM fun k hk => ⟨hk.1, hq k (.inl hk.2)⟩) fun k hk => ⟨hB.free hQ k hk, hq k (.inr hk)⟩
/-- What a call of Think leaves. -/
def Ret (Q : Nat → Prop) (W w' : World) (e : Ending) (r f0 : Int) (l : List Md) : Prop :=
  ∃ A' c', e = .returned (.tuple #[.int .i64 r, .agg #[.int .i64 f0, .slice A' l.length c']]) ∧ l.length ≤ c' ∧ FM w' Q A' l ∧ Below W.heap.size W w'
theorem put2 {w : World} {g : Nat} {a b : Value} {t : TypeId} (h : w.heap[g]? = some (.cells #[a, b] t (0, 0))) (x0 x1 : Value) : ((w.setCell ⟨g, 0, none⟩ x0).setCell ⟨g, 1, none⟩ x1).heap[g]? = some (.cells #[x0, x1] t (0, 0)) := blk_put (blk_put h 0 _ rfl) 1 _ rfl
theorem cellB {w w' : World} (hb : Below w.heap.size w w') {p : Addr} {v : Value} (h : w.cell? p = some v) : w'.cell? p = some v := (cell_same (hb.block _ (World.block_lt_of_cell? w _ h))).trans h
section
variable {Q : Nat → Prop} {W w w1 w2 w' : World} {g3 g4 g7 g : Nat} {n0 n2 m0 : Int} {n1 : ByteArray} {n3 : List Nd} {A3 Am : Option Addr} {L c3 cm : Nat} {m1 : List Md} {cs : Array Value}
theorem Bs.start (hT : Tr W Al A3 n3) (hM : FM W Q Am m1) (e3 : g3 = W.heap.size) (b3 : w1.heap[g3]? = some (.cells (boxN n0 n1 n2 A3 L c3) 25 (0, 0))) (h1 : Below W.heap.size W w1) (e4 : g4 = w1.heap.size) (b4 : w2.heap[g4]? = some (.cells (boxM m0 Am L cm) 40 (0, 0))) (h2 : Below w1.heap.size w1 w2) (e7 : g7 = w2.heap.size) (b7 : w'.heap[g7]? = some (.cells (boxM 0 none 0 0) 40 (0, 0))) (h3 : Below w2.heap.size w2 w') :
    Bs Q W w' g3 g4 g7 n0 n1 n2 n3 A3 L c3 m0 m1 Am cm := by
  have h12 := h1.trans (h2.mono h1.size)
  have h13 := h12.trans (h3.mono h12.size)
  have l3 := blk_lt b3
  have l4 := blk_lt b4
  have s1 := h1.size
  have s2 := h12.size
  exact ⟨h13, blk_below (blk_below b3 h2) h3, blk_below b4 h3, b7, by omega, by omega, by omega, by have := h2.size; omega, by omega, Kd.F_below (Kd.F_mono (Kd.F_bound hT) fun k hk => hk.2) h13, Kd.F_below (Kd.F_bound hM) h13⟩
/-- The answer is laid into its place. -/
theorem Bs.fin (h : Bs Q W w g3 g4 g7 n0 n1 n2 n3 A3 L c3 m0 m1 Am cm) {A : Option Addr} {l : List Md} (hF : FM w (fun k => Q k ∧ k ≠ g7) A l) {c : Nat} (hc : l.length ≤ c) (r f0 : Int) :
    Ret Q W ((w.setCell ⟨g7, 0, none⟩ (.int .i64 f0)).setCell ⟨g7, 1, none⟩ (.slice A l.length c)) (.returned (.tuple #[.int .i64 r, .agg #[.int .i64 f0, .slice A l.length c]])) r f0 l :=
  ⟨A, c, rfl, hc, Kd.F_mono (Kd.F_far (p := ⟨g7, 1, none⟩) (Kd.F_far (p := ⟨g7, 0, none⟩) hF (fun _ hk => hk.2) _) (fun _ hk => hk.2) _) (fun _ hk => hk.1), (h.bel.setCell h.w7 _).setCell h.w7 _⟩
/-- What a call within, and the place for its mind, leave, in either order. -/
def Fk (Q X : Nat → Prop) (W : World) (g3 g4 g7 : Nat) (n0 : Int) (n1 : ByteArray) (n2 : Int) (n3 : List Nd) (A3 : Option Addr) (L c3 : Nat) (m0 : Int) (m1 : List Md) (Am : Option Addr) (cm : Nat) (kf : List Md) (s : Nat × Option Addr × Nat) (w' : World) : Prop :=
  Bs Q W w' g3 g4 g7 n0 n1 n2 n3 A3 L c3 m0 m1 Am cm ∧ Bx W w' g3 g4 g7 s.1 (boxM 0 none 0 0) ∧ kf.length ≤ s.2.2 ∧ FM w' (fun k => ((Q k ∧ k ≠ g7) ∧ X k) ∧ k ≠ s.1) s.2.1 kf
theorem Bx.put (h : Bx W w g3 g4 g7 g (boxM m0 Am L cm)) (x0 x1 : Value) : Bx W ((w.setCell ⟨g, 0, none⟩ x0).setCell ⟨g, 1, none⟩ x1) g3 g4 g7 g #[x0, x1] := ⟨put2 h.b x0 x1, h.wg, h.n3, h.n4, h.n7⟩
theorem Bx.far (h : Bx W w g3 g4 g7 g cs) {p : Addr} (hp : g ≠ p.block) (x : Value) : Bx W (w.setCell p x) g3 g4 g7 g cs := ⟨blk_far h.b hp x, h.wg, h.n3, h.n4, h.n7⟩
theorem Bs.setX (h : Bs Q W w g3 g4 g7 n0 n1 n2 n3 A3 L c3 m0 m1 Am cm) (hx : Bx W w' g3 g4 g7 g cs) (x0 x1 : Value) : Bs Q W ((w.setCell ⟨g, 0, none⟩ x0).setCell ⟨g, 1, none⟩ x1) g3 g4 g7 n0 n1 n2 n3 A3 L c3 m0 m1 Am cm :=
  (h.set hx.wg hx.n3 hx.n4 hx.n7 0 x0).set hx.wg hx.n3 hx.n4 hx.n7 1 x1
theorem Fk.put {X : Nat → Prop} {kf : List Md} {A : Option Addr} {c : Nat} (h : Fk Q X W g3 g4 g7 n0 n1 n2 n3 A3 L c3 m0 m1 Am cm kf (g, A, c) w) (f0 : Int) :
    Bs Q W ((w.setCell ⟨g, 0, none⟩ (.int .i64 f0)).setCell ⟨g, 1, none⟩ (.slice A kf.length c)) g3 g4 g7 n0 n1 n2 n3 A3 L c3 m0 m1 Am cm ∧ Bx W ((w.setCell ⟨g, 0, none⟩ (.int .i64 f0)).setCell ⟨g, 1, none⟩ (.slice A kf.length c)) g3 g4 g7 g (boxM f0 A kf.length c) ∧ kf.length ≤ c ∧ FM ((w.setCell ⟨g, 0, none⟩ (.int .i64 f0)).setCell ⟨g, 1, none⟩ (.slice A kf.length c)) (fun k => (Q k ∧ k ≠ g7) ∧ X k) A kf :=
  ⟨h.1.setX h.2.1 _ _, h.2.1.put _ _, h.2.2.1, Kd.F_mono (Kd.F_far (p := ⟨g, 1, none⟩) (Kd.F_far (p := ⟨g, 0, none⟩) h.2.2.2 (fun _ hk => hk.2) _) (fun _ hk => hk.2) _) (fun _ hk => hk.1)⟩
/-- The row of one mind that is made of a box's mind. -/
theorem one_row {q : Nat → Prop} {x : Md} {A : Option Addr} {c : Nat} (hF : FM w q A x.f1) (hc : x.f1.length ≤ c) (hb : w.heap[g]? = some (.cells #[.int .i64 x.f0, .slice A x.f1.length c] 40 (0, 0))) (hg : q g) : FM w q (some ⟨g, 0, none⟩) [x] :=
  FM_of hg [x] hb (by simp) (by simp) fun j y hj => by
    match j, hj with
    | 0, hj => (injection hj with hj; subst hj; exact ⟨A, c, hc, hF, rfl, rfl⟩)
/-- Blank's row, as a row of the call's own. -/
structure OutR (Q : Nat → Prop) (W w : World) (g3 g4 g7 gb : Nat) (l : List Md) : Prop where
  row : RowM w (fun k => (Q k ∧ k ≠ g7) ∧ k ≠ gb) gb l
  wg : W.heap.size ≤ gb
  n3 : g3 ≠ gb
  n4 : g4 ≠ gb
  n7 : g7 ≠ gb
theorem OutR.below {l : List Md} (h : OutR Q W w g3 g4 g7 g l) (hb : Below w.heap.size w w') : OutR Q W w' g3 g4 g7 g l := ⟨h.row.below hb, h.wg, h.n3, h.n4, h.n7⟩
theorem blank_call (hB : Bs Q W w g3 g4 g7 n0 n1 n2 n3 A3 L c3 m0 m1 Am cm) (hQ : ∀ k, W.heap.size ≤ k → Q k) (hL : n3.length = L) (hc : L ≤ c3) {kb : Nat} {bl : List Md} (hk : tourref5_Blank.f kb n0 n1 n2 n3 = some (0, bl)) (hbl : bl.length = L) :
    Calls Try.prog 16 #[.agg #[.int .i64 n0, .string n1, .int .i64 n2, .slice A3 L c3]] w fun e w' => ∃ Ab cb, e = .returned (.agg #[.int .i64 0, .slice Ab L cb]) ∧ L ≤ cb ∧ FM w' (fun k => Q k ∧ k ≠ g7) Ab bl ∧ (0 < L → ∃ gb, Ab = some ⟨gb, 0, none⟩ ∧ w.heap.size ≤ gb ∧ OutR Q W w' g3 g4 g7 gb bl) ∧ Below w.heap.size w w' := by
  subst hL
  refine (tourref5_Blank.calls kb n0 n1 n2 A3 c3 n3 0 bl w (Kd.F_now hB.tn) hc hk).mono ?_
  rintro e w' ⟨v, rfl, hR, hb⟩
  have hR2 := Kd.R_mono (ok' := fun k => Q k ∧ k ≠ g7) (Kd.R_bound hR) (fun k hk => hB.free hQ k hk.2.1)
  obtain ⟨Ab, cb, rfl⟩ := Kd.R_slice hR2
  have hF := Kd.R_F hR2
  have hre := Kd.R_reads' hR2
  refine ⟨Ab, cb, by rw [hbl], by rw [← hbl]; exact hre.2.1, hF, fun hp => ?_, hb⟩
  obtain ⟨gb, cap, e, hg, hrow⟩ := row_of hR2 (by omega)
  injection e with e1 e2 e3
  have l3 := blk_lt hB.b3
  have l4 := blk_lt hB.b4
  have l7 := blk_lt hB.b7
  exact ⟨gb, e1, hg, hrow, Nat.le_trans hB.bel.size hg, by omega, by omega, by omega⟩
end
/-- Blank's row beside the box it stands in. -/
structure OutS (Q X : Nat → Prop) (W w : World) (g3 g4 g7 g15 gb : Nat) (l : List Md) : Prop where
  row : RowM w (fun k => ((Q k ∧ k ≠ g7) ∧ k ≠ gb ∧ k ≠ g15) ∧ X k) gb l
  wg : W.heap.size ≤ gb
  n3 : g3 ≠ gb
  n4 : g4 ≠ gb
  n7 : g7 ≠ gb
  n15 : g15 ≠ gb
section
variable {Q X : Nat → Prop} {W w w' : World} {g3 g4 g7 g15 gb g : Nat} {l : List Md} {cs : Array Value}
theorem OutS.of (h : OutR Q W w g3 g4 g7 gb l) (hg : w.heap.size ≤ g15) (hb : Below w.heap.size w w') : OutS Q Al W w' g3 g4 g7 g15 gb l :=
  ⟨((h.row.elder g15 hg).below hb).mono fun k hk => ⟨⟨hk.1.1, hk.1.2, hk.2⟩, trivial⟩, h.wg, h.n3, h.n4, h.n7, by have := h.row.lt; omega⟩
theorem OutS.below (h : OutS Q X W w g3 g4 g7 g15 gb l) (hb : Below w.heap.size w w') : OutS Q X W w' g3 g4 g7 g15 gb l := ⟨h.row.below hb, h.wg, h.n3, h.n4, h.n7, h.n15⟩
theorem OutS.new (h : OutS Q Al W w g3 g4 g7 g15 gb l) (hg : w.heap.size ≤ g) (hb : Below w.heap.size w w') : OutS Q (fun k => k ≠ g) W w' g3 g4 g7 g15 gb l :=
  ⟨((h.row.elder g hg).below hb).mono fun k hk => ⟨hk.1.1, hk.2⟩, h.wg, h.n3, h.n4, h.n7, h.n15⟩
theorem OutS.put (h : OutS Q (fun k => k ≠ g) W w g3 g4 g7 g15 gb l) (hg : gb ≠ g) (x0 x1 : Value) : OutS Q Al W ((w.setCell ⟨g, 0, none⟩ x0).setCell ⟨g, 1, none⟩ x1) g3 g4 g7 g15 gb l :=
  ⟨((h.row.far (p := ⟨g, 0, none⟩) hg (fun _ hk => hk.2) x0).far (p := ⟨g, 1, none⟩) hg (fun _ hk => hk.2) x1).mono fun _ hk => ⟨hk.1, trivial⟩, h.wg, h.n3, h.n4, h.n7, h.n15⟩
theorem OutS.put15 (h : OutS Q Al W w g3 g4 g7 g15 gb l) (i : Nat) (x : Value) : OutS Q Al W (w.setCell ⟨g15, i, none⟩ x) g3 g4 g7 g15 gb l :=
  ⟨h.row.far (p := ⟨g15, i, none⟩) h.n15.symm (fun _ hk => hk.1.2.2) x, h.wg, h.n3, h.n4, h.n7, h.n15⟩
/-- The kid's mind laid into the row: what is handed over. -/
theorem OutS.lay (h : OutS Q Al W w g3 g4 g7 g15 gb l) (i : Nat) (hi : i < l.length) (hn : l.length ≤ 1000000) (hQ : ∀ k, W.heap.size ≤ k → Q k) (x : Md) {A : Option Addr} {c : Nat} (hc : x.f1.length ≤ c) (hF : FM w (fun k => (Q k ∧ k ≠ g7) ∧ (k ≠ g15 ∧ k ≠ gb)) A x.f1) :
    FM ((w.setCell ⟨gb, i * 2, none⟩ (.int .i64 x.f0)).setCell ⟨gb, i * 2 + 1, none⟩ (.slice A x.f1.length c)) (fun k => Q k ∧ k ≠ g7) (some ⟨gb, 0, none⟩) (l.set i x) :=
  RowM.fm (Q := fun k => ((Q k ∧ k ≠ g7) ∧ k ≠ gb ∧ k ≠ g15) ∧ Al k) (h.row.set (fun _ hk => hk.1.2.1) i hi x hc (Kd.F_mono hF fun _ hk => ⟨⟨hk.1, hk.2.2, hk.2.1⟩, trivial⟩)) (fun _ hk => hk.1.1) ⟨hQ gb h.wg, fun e => h.n7 e.symm⟩ (by rw [List.length_set]; exact hn) (by rw [List.length_set]; omega)
end
section
variable {σ : Type} (Th : Nd → Md → σ → Int × Md × σ) (bl : Md) (kind : Int)
theorem thinkL_step {n3 : List Nd} {m1 : List Md} {L : Nat} (hL : n3.length = L) (hLm : m1.length = L) (i : Int) (h0 : 0 ≤ i) (h1 : i < L) (s : σ) :
    thinkL Th bl kind i.toNat (n3.drop i.toNat) (m1.drop i.toNat) s =
      if (Th (rdN n3 i) (rdM m1 i) s).1 = 2 then (2, ⟨if kind = 3 ∨ kind = 4 then i else 0, bl.f1.set i.toNat (Th (rdN n3 i) (rdM m1 i) s).2.1⟩, (Th (rdN n3 i) (rdM m1 i) s).2.2)
      else if (Th (rdN n3 i) (rdM m1 i) s).1 = onV kind then thinkL Th bl kind (i + 1).toNat (n3.drop (i + 1).toNat) (m1.drop (i + 1).toNat) (Th (rdN n3 i) (rdM m1 i) s).2.2
      else ((Th (rdN n3 i) (rdM m1 i) s).1, bl, (Th (rdN n3 i) (rdM m1 i) s).2.2) := by
  obtain ⟨j, rfl⟩ : ∃ j : Nat, i = (j : Int) := ⟨i.toNat, by omega⟩
  have e1 : ((j : Int) + 1).toNat = j + 1 := by omega
  have hj1 : j < n3.length := by omega
  have hj2 : j < m1.length := by omega
  rw [e1, Int.toNat_natCast, List.drop_eq_getElem_cons hj1, List.drop_eq_getElem_cons hj2, thinkL]
  have r1 : rdN n3 (j : Int) = n3[j] := by simp [rdN, rd_T25, List.getD_eq_getElem?_getD, List.getElem?_eq_getElem hj1]
  have r2 : rdM m1 (j : Int) = m1[j] := by simp [rdM, rd_T40, List.getD_eq_getElem?_getD, List.getElem?_eq_getElem hj2]
  rw [r1, r2]
theorem thinkL_end {n3 : List Nd} {m1 : List Md} {L : Nat} (hL : n3.length = L) (i : Int) (h1 : ¬ i < L) (s : σ) : thinkL Th bl kind i.toNat (n3.drop i.toNat) (m1.drop i.toNat) s = (onV kind, bl, s) := by
  rw [List.drop_eq_nil_of_le (by omega)]
  unfold thinkL
  rfl
end
end Go.Proofs.Ytbpgfjfkogdolaa.TreeThinkMemTreeTells
