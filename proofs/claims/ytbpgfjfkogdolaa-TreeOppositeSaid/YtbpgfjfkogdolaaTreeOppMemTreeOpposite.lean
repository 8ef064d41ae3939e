/- The memory of TreeOpposite's walk: rows of nodes, pure functions that are asked. Under no condition but what stands at each. -/
import Derived.Test.YtbpgfjfkogdolaaTreeOppLawTreeOpposite
namespace Go.Proofs.Ytbpgfjfkogdolaa.TreeOppMemTreeOpposite
open Go Go.RowKit Go.Proofs.YtbpgfjfkogdolaaW.PrintWords Go.Proofs.YtbpgfjfkogdolaaW.PrintLast Go.Proofs.YtbpgfjfkogdolaaW.PrintMore Go.Proofs.Ytbpgfjfkogdolaa.PTreeOpposite Go.Proofs.Ytbpgfjfkogdolaa.Fnv Go.Proofs.Ytbpgfjfkogdolaa.TreePlainTreeOpposite Go.Proofs.Ytbpgfjfkogdolaa.TreeMemTreeOpposite Go.Proofs.Ytbpgfjfkogdolaa.TreeEvTreeOpposite Go.Proofs.Ytbpgfjfkogdolaa.TreeTopTreeOpposite Go.Proofs.Ytbpgfjfkogdolaa.TreeAnswersTreeOpposite Go.Proofs.Ytbpgfjfkogdolaa.TreeOppTreeOpposite Go.Proofs.Ytbpgfjfkogdolaa.TreeCheckTreeOpposite Go.Proofs.Ytbpgfjfkogdolaa.TreeRowTreeOpposite
set_option linter.unusedVariables false
set_option linter.unusedSimpArgs false
abbrev Al : Nat → Prop := fun _ => True
/-- A row of nodes in one block. -/
theorem F_of {Q : Nat → Prop} {w : World} {g : Nat} {cs : Array Value} (hQ : Q g) (xs : List Nd) (hb : w.heap[g]? = some (.cells cs 25 (0, 0))) (hn : xs.length ≤ 1000) (hp : 0 < xs.length)
    (h : ∀ j x, xs[j]? = some x → ∃ A c, x.f3.length ≤ c ∧ Tr w Q A x.f3 ∧ cs[j * 4]? = some (.int .i64 x.f0) ∧ cs[j * 4 + 1]? = some (.string x.f1) ∧ cs[j * 4 + 2]? = some (.int .i64 x.f2) ∧ cs[j * 4 + 3]? = some (.slice A x.f3.length c)) : Tr w Q (some ⟨g, 0, none⟩) xs := by
  intro W' hW
  refine ⟨rfl, by omega, fun _ => ⟨_, rfl, fun j x hj => ?_⟩⟩
  obtain ⟨A, c, hc, hT, h0, h1, h2, h3⟩ := h j x hj
  refine ⟨_, ?_, k25_mk W' x hc (hT W' hW), ?_⟩
  · rfl
  · intro i u hi
    have hlt := blk_lt hb
    have hg : W'.heap[g]? = some (.cells cs 25 (0, 0)) := (hW g hQ hlt).trans hb
    have e : (Addr.add ⟨g, 0, none⟩ (j * 4 + i)) = ⟨g, j * 4 + i, none⟩ := by
      unfold Addr.add
      split
      · next h0 => simp at h0; simp
      · simp
    show W'.cell? (Addr.add ⟨g, 0, none⟩ (j * 4 + i)) = _
    rw [e, blk_cell hg]
    match i, hi with
    | 0, hi => exact h0.trans hi
    | 1, hi => exact h1.trans hi
    | 2, hi => exact h2.trans hi
    | 3, hi => exact h3.trans hi
/-- A function that only answers. -/
theorem asks_pure {W0 : World} {g : FuncId} {lb : Array Value} {fn : Func} (an0 : ByteArray → Int) (hf : Try.prog.funcs[g]? = some fn) (hname : (fn.name == "runtime.NumGoroutine") = false) (hb : fn.body.isSome = true)
    (h : ∀ (w : World) (x : ByteArray), Below W0.heap.size W0 w → Calls Try.prog g (#[.string x] ++ lb) w fun e w' => e = .returned (.int .i64 (an0 x)) ∧ Below w.heap.size w w') :
    Asks W0 (fun k => Al k ∧ k < W0.heap.size) (fun w (_ : Unit) => Below W0.heap.size W0 w) (.func (.func g) #[] lb) (fun _ x => (an0 x, ())) where
  stab := fun h1 h2 => h1.trans h2
  tree := fun h1 k hk hlt => h1.block k hlt
  ask := ⟨g, lb, fn, rfl, hf, hname, hb, fun w s x hI hs => (h w x hI).mono fun e w' he => ⟨he.1, hI.trans (he.2.mono hs), he.2.size, fun j _ hj => he.2.block j hj⟩⟩
theorem tr_now1 {w : World} {A : Option Addr} {l : List Nd} (h : Tr w Al A l) : Tr w (fun k => Al k ∧ k < w.heap.size) A l := Kd.F_bound h
theorem row_event {P : Program} {ops : Array Oper} {rest : List Oper} {o : Oper} {a : Act} {Q : Exit → Act → World → Prop} {W : World} (hgd : o.guard = none) {N : Tmp} (_hd : o.dst = some N) {cs : Array Value} {t : TypeId} {n : Nat}
    (hrun : (execOp a.eval o).run P W = .ok (.value (.slice (some ⟨W.heap.size, 0, none⟩) n n)) (W.alloc (.cells cs t (0, 0))))
    (h : ∀ g, g = W.heap.size → ∀ w1, w1.heap[g]? = some (.cells cs t (0, 0)) → Below W.heap.size W w1 → wpList P ops Q rest (a.put o.dst (.slice (some ⟨g, 0, none⟩) n n)) w1) : wpList P ops Q (o :: rest) a W :=
  Kd.event_run hgd hrun (h _ rfl _ (blk_new W _) (below_alloc (Below.refl _ _) _))
/-- A node in four cells. -/
abbrev ndC (x : Nd) (A : Option Addr) (c : Nat) : Array Value := #[.int .i64 x.f0, .string x.f1, .int .i64 x.f2, .slice A x.f3.length c]
/-- What stays from region 7 on. -/
structure Base (Q : Nat → Prop) (W w : World) (g11 g12 g14 gx : Nat) (a b : Nd) (Aa : Option Addr) (ca : Nat) (Ab : Option Addr) (cb : Nat) : Prop where
  bel : Below W.heap.size W w
  b11 : w.heap[g11]? = some (.cells (ndC a Aa ca) 25 (0, 0))
  b12 : w.heap[g12]? = some (.cells (ndC b Ab cb) 25 (0, 0))
  b14 : w.heap[g14]? = some (.cells #[.int .i64 4, .string eB, .int .i64 0, .slice (some ⟨gx, 0, none⟩) 2 2] 25 (0, 0))
  fa : Tr w Q Aa a.f3
  fb : Tr w Q Ab b.f3
  fx : Tr w Q (some ⟨gx, 0, none⟩) [a, b]
theorem Base.below {Q : Nat → Prop} {W w w' : World} {g11 g12 g14 gx : Nat} {a b : Nd} {Aa : Option Addr} {ca : Nat} {Ab : Option Addr} {cb : Nat} (h : Base Q W w g11 g12 g14 gx a b Aa ca Ab cb) (hb : Below w.heap.size w w') : Base Q W w' g11 g12 g14 gx a b Aa ca Ab cb :=
  ⟨h.bel.trans (hb.mono h.bel.size), blk_below h.b11 hb, blk_below h.b12 hb, blk_below h.b14 hb, Kd.F_below h.fa hb, Kd.F_below h.fb hb, Kd.F_below h.fx hb⟩
theorem Base.elder {W w : World} {g11 g12 g14 gx g : Nat} {a b : Nd} {Aa : Option Addr} {ca : Nat} {Ab : Option Addr} {cb : Nat} (h : Base Al W w g11 g12 g14 gx a b Aa ca Ab cb) (hg : w.heap.size ≤ g) : Base (fun k => k ≠ g) W w g11 g12 g14 gx a b Aa ca Ab cb ∧ g11 ≠ g ∧ g12 ≠ g ∧ g14 ≠ g :=
  ⟨⟨h.bel, h.b11, h.b12, h.b14, Kd.F_mono (Kd.F_elderB h.fa g hg) (fun _ hk => hk.2), Kd.F_mono (Kd.F_elderB h.fb g hg) (fun _ hk => hk.2), Kd.F_mono (Kd.F_elderB h.fx g hg) (fun _ hk => hk.2)⟩, Nat.ne_of_lt (Nat.lt_of_lt_of_le (blk_lt h.b11) hg), Nat.ne_of_lt (Nat.lt_of_lt_of_le (blk_lt h.b12) hg), Nat.ne_of_lt (Nat.lt_of_lt_of_le (blk_lt h.b14) hg)⟩
theorem F_box4 {w : World} {g : Nat} {A : Option Addr} {l : List Nd} (h : Tr w (fun k => k ≠ g) A l) (x0 x1 x2 x3 : Value) : Tr ((((w.setCell ⟨g, 0, none⟩ x0).setCell ⟨g, 1, none⟩ x1).setCell ⟨g, 2, none⟩ x2).setCell ⟨g, 3, none⟩ x3) Al A l :=
  Kd.F_mono (Kd.F_far (p := ⟨g, 3, none⟩) (Kd.F_far (p := ⟨g, 2, none⟩) (Kd.F_far (p := ⟨g, 1, none⟩) (Kd.F_far (p := ⟨g, 0, none⟩) h (fun _ hk => hk) _) (fun _ hk => hk) _) (fun _ hk => hk) _) (fun _ hk => hk) _) (fun _ _ => trivial)
theorem Base.box4 {W w : World} {g11 g12 g14 gx g : Nat} {a b : Nd} {Aa : Option Addr} {ca : Nat} {Ab : Option Addr} {cb : Nat} (h : Base (fun k => k ≠ g) W w g11 g12 g14 gx a b Aa ca Ab cb) (hn : g11 ≠ g ∧ g12 ≠ g ∧ g14 ≠ g) (hg : W.heap.size ≤ g) (x0 x1 x2 x3 : Value) : Base Al W ((((w.setCell ⟨g, 0, none⟩ x0).setCell ⟨g, 1, none⟩ x1).setCell ⟨g, 2, none⟩ x2).setCell ⟨g, 3, none⟩ x3) g11 g12 g14 gx a b Aa ca Ab cb :=
  ⟨below4 h.bel hg _ _ _ _, far4 h.b11 hn.1 _ _ _ _, far4 h.b12 hn.2.1 _ _ _ _, far4 h.b14 hn.2.2 _ _ _ _, F_box4 h.fa _ _ _ _, F_box4 h.fb _ _ _ _, F_box4 h.fx _ _ _ _⟩
/-- A row of the region's own making. -/
theorem row_step {P : Program} {ops : Array Oper} {Q : Exit → Act → World → Prop} {o : Oper} {a : Act} {Kc : Act → World → Prop} {W : World} (hw : Region.wanted o (yielded ops a.tmps) = true) {N : Option Tmp} (hd : o.dst = N) {cs : Array Value} {t : TypeId} {n : Nat}
    (hrun : (execOp a.eval o).run P W = .ok (.value (.slice (some ⟨W.heap.size, 0, none⟩) n n)) (W.alloc (.cells cs t (0, 0))))
    (h : ∀ g, g = W.heap.size → ∀ w1, w1.heap[g]? = some (.cells cs t (0, 0)) → Below W.heap.size W w1 → Kc (a.put N (.slice (some ⟨g, 0, none⟩) n n)) w1) : if Region.wanted o (yielded ops a.tmps) = true then Oper.wp P o a W Kc Q else Kc (a.put N undef) W := by
  subst hd
  rw [if_pos hw]
  unfold Oper.wp
  rw [hrun]
  exact h _ rfl _ (blk_new W _) (below_alloc (Below.refl _ _) _)
/-- A box of the region's own making. -/
theorem boxN_step {P : Program} {ops : Array Oper} {Q : Exit → Act → World → Prop} {o : Oper} {a : Act} {Kc : Act → World → Prop} {W : World} (hw : Region.wanted o (yielded ops a.tmps) = true) {N : Option Tmp} (hd : o.dst = N) {cs : Array Value} {t : TypeId}
    (hrun : (execOp a.eval o).run P W = .ok (.value (.pointer (some ⟨W.heap.size, 0, none⟩))) (W.alloc (.cells cs t (0, 0))))
    (h : ∀ g, g = W.heap.size → ∀ w1, w1.heap[g]? = some (.cells cs t (0, 0)) → Below W.heap.size W w1 → Kc (a.put N (.pointer (some ⟨g, 0, none⟩))) w1) : if Region.wanted o (yielded ops a.tmps) = true then Oper.wp P o a W Kc Q else Kc (a.put N undef) W := by
  subst hd
  rw [if_pos hw]
  unfold Oper.wp
  rw [hrun]
  exact h _ rfl _ (blk_new W _) (below_alloc (Below.refl _ _) _)
/-- A call of a function value in a region that draws its order. -/
theorem goesT_ {P : Program} {ops : Array Oper} {Q : Exit → Act → World → Prop} {oi : Oper} {N : Option Tmp} {a : Act} {w : World} {K : Act → World → Prop} {f : FuncId} {fn : Func} {xs : Array Operand} {ts : Array TypeId} {t : Tmp} {lb : Array Value} (hf : P.funcs[f]? = some fn) (hname : (fn.name == "runtime.NumGoroutine") = false) (hb : fn.body.isSome = true) (args : Array Value)
    (hw : Region.wanted oi (yielded ops a.tmps) = true) (hN : oi.dst = N) (hop : oi.op = .call { callee := .value (.tmp t), args := xs, argTypes := ts }) (hv : a.eval (.tmp t) = .func (.func f) #[] lb) (hargs : xs.map a.eval = args)
    (h : Calls P f (args ++ lb) w fun e w' => ∃ v, e = .returned v ∧ K (a.put N v) w') : if Region.wanted oi (yielded ops a.tmps) = true then Oper.wp P oi a w K Q else K (a.put N undef) w := by
  refine call_ f (args ++ lb) hw hN ?_ h
  have he := enters_ hf hname hb (args ++ lb) w
  unfold execOp
  simp [hop, resolve, Deferred.ofValue, invoke, hv, hargs, he]
/-- The opposite of a node, as the law's own function makes it. -/
theorem not_call (Q : Nat → Prop) (n : Nd) (A : Option Addr) (c : Nat) {w : World} (hc : n.f3.length ≤ c) (hT : Tr w Q A n.f3) (hQ : ∀ k, w.heap.size ≤ k → Q k) :
    Calls Try.prog 10 #[.agg (ndC n A c)] w fun e w' => ∃ A' c', e = .returned (.agg #[.int .i64 5, .string (⟨#[]⟩ : ByteArray), .int .i64 0, .slice A' 1 c']) ∧ 1 ≤ c' ∧ Tr w' Q A' (notN n).f3 ∧ Below w.heap.size w w' := by
  obtain ⟨f0, f1, f2, f3⟩ := n
  refine (tourkeep5_TreeOpposite_2.calls f0 f1 f2 Q A c f3 _ _ _ _ w ⟨A, c, rfl, hc, hT⟩ rfl).mono ?_
  rintro e w' ⟨v, rfl, hN, hb⟩
  obtain ⟨A', c', rfl⟩ := Kd.N_slice hN
  exact ⟨A', c', rfl, (Kd.N_reads' hN).2.1, Kd.F_mono (Kd.N_F hN) (fun k hk => hk.elim id (hQ k)), hb⟩
set_option maxHeartbeats 2000000 in
set_option maxRecDepth 100000 in
theorem answers_any (A : Option Addr) (c : Nat) (l : List Int) (round : Int) {w : World} :
    Calls Try.prog 11 #[.slice A l.length c, .int .i64 round] w fun e w' => ∃ gl gr : Nat, e = .returned (.func (.func 34) #[] #[.pointer (some ⟨gl, 0, none⟩), .pointer (some ⟨gr, 0, none⟩)]) ∧ w'.cell? ⟨gl, 0, none⟩ = some (.slice A l.length c) ∧ w'.cell? ⟨gr, 0, none⟩ = some (.int .i64 round) ∧ Below w.heap.size w w' := by
  go_enter Try.func11, Try.ntmps11
  go_wp2_with (first | ((with_reducible refine gate_dst (N := 2) rfl ?_); refine box_event ?hg (N := 2) ?hd (cs := #[.slice A l.length c]) (t := 22) ?hr ?_; (case hd => rfl); (case hg => rfl); (case hr => first | (go_simp; done) | (go_simp; rfl)); intro gl hg w1 hbox hb; have B1 := Aside0.mk hbox; have HB1 := Aside0.mk hb; clear hg hbox hb) | ((with_reducible refine gate_dst (N := 3) rfl ?_); refine box_event ?hg (N := 3) ?hd (cs := #[.int .i64 round]) (t := 3) ?hr ?_; (case hd => rfl); (case hg => rfl); (case hr => first | (go_simp; done) | (go_simp; rfl)); intro gr hg w2 hbox hb; have B2 := Aside0.mk hbox; have B12 := Aside0.mk (blk_below B1.out hb); have HB2 := Aside0.mk (HB1.out.trans (hb.mono HB1.out.size)); clear hg hbox hb))
  go_ret
  exact ⟨gl, gr, rfl, (blk_cell B12.out 0).trans rfl, (blk_cell B2.out 0).trans rfl, HB2.out⟩
/-- What Answers makes, at the world where it is handed over. -/
theorem asks_answers {W0 : World} {A : Option Addr} {c : Nat} {l : List Int} {round : Int} {gl gr : Nat} (hl : W0.cell? ⟨gl, 0, none⟩ = some (.slice A l.length c)) (hr : W0.cell? ⟨gr, 0, none⟩ = some (.int .i64 round)) (hC : Kd.C (Kd.int .i64) W0 A l.length l) :
    Asks W0 (fun k => Al k ∧ k < W0.heap.size) (fun w (_ : Unit) => Below W0.heap.size W0 w) (.func (.func 34) #[] #[.pointer (some ⟨gl, 0, none⟩), .pointer (some ⟨gr, 0, none⟩)]) (fun _ x => (ansV l round x, ())) :=
  asks_pure (ansV l round) Try.func34 (by kernel_rfl) rfl fun w x hb => by
    have e : ∀ {p : Addr} {v : Value}, W0.cell? p = some v → w.cell? p = some v := fun {p} {v} h => (cell_same (hb.block _ (World.block_lt_of_cell? W0 _ h))).trans h
    exact ask_any gl gr A c l round x (e hl) (e hr) (Kd.C_below hC hb)
end Go.Proofs.Ytbpgfjfkogdolaa.TreeOppMemTreeOpposite
