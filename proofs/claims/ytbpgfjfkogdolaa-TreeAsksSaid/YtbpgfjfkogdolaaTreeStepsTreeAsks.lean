/- Steps of walks that several laws of trees share: rows and boxes of a region's own making, calls of functions that are asked. Under no condition but what stands at each. -/
import Derived.Test.YtbpgfjfkogdolaaTreeAnswersTreeAsks
namespace Go.Proofs.Ytbpgfjfkogdolaa.TreeStepsTreeAsks
open Go Go.RowKit Go.Proofs.YtbpgfjfkogdolaaW.PrintWords Go.Proofs.YtbpgfjfkogdolaaW.PrintLast Go.Proofs.YtbpgfjfkogdolaaW.PrintMore Go.Proofs.Ytbpgfjfkogdolaa.PTreeAsks Go.Proofs.Ytbpgfjfkogdolaa.Fnv Go.Proofs.Ytbpgfjfkogdolaa.TreePlainTreeAsks Go.Proofs.Ytbpgfjfkogdolaa.TreeMemTreeAsks Go.Proofs.Ytbpgfjfkogdolaa.TreeTopTreeAsks Go.Proofs.Ytbpgfjfkogdolaa.TreeAnswersTreeAsks Go.Proofs.Ytbpgfjfkogdolaa.TreeCheckTreeAsks Go.Proofs.Ytbpgfjfkogdolaa.TreeRowTreeAsks
set_option linter.unusedVariables false
set_option linter.unusedSimpArgs false
abbrev Al : Nat → Prop := fun _ => True
/-- A function that only answers. -/
theorem asks_pure {W0 : World} {g : FuncId} {lb : Array Value} {fn : Func} (an0 : ByteArray → Int) (hf : Try.prog.funcs[g]? = some fn) (hname : (fn.name == "runtime.NumGoroutine") = false) (hb : fn.body.isSome = true)
    (h : ∀ (w : World) (x : ByteArray), Below W0.heap.size W0 w → Calls Try.prog g (#[.string x] ++ lb) w fun e w' => e = .returned (.int .i64 (an0 x)) ∧ Below w.heap.size w w') :
    Asks W0 (fun k => Al k ∧ k < W0.heap.size) (fun w (_ : Unit) => Below W0.heap.size W0 w) (.func (.func g) #[] lb) (fun _ x => (an0 x, ())) where
  stab := fun h1 h2 => h1.trans h2
  tree := fun h1 k hk hlt => h1.block k hlt
  ask := ⟨g, lb, fn, rfl, hf, hname, hb, fun w s x hI hs => (h w x hI).mono fun e w' he => ⟨he.1, hI.trans (he.2.mono hs), he.2.size, fun j _ hj => he.2.block j hj⟩⟩
theorem tr_now1 {w : World} {A : Option Addr} {l : List Nd} (h : Tr w Al A l) : Tr w (fun k => Al k ∧ k < w.heap.size) A l := Kd.F_bound h
theorem row_event {P : Program} {ops : Array Oper} {rest : List Oper} {o : Oper} {a : Act} {Q : Exit → Act → World → Prop} {W : World} (hgd : o.guard = none) {N : Tmp} (_hd : o.dst = some N) {cs : Array Value} {t : TypeId} {n : Nat}
    (hrun : (execOp a.eval o).run P W = .ok (.value (.slice (some ⟨W.heap.size, 0, none⟩) n n)) (W.alloc (.cells cs t (0, 0))))
    (h : ∀ g, g = W.heap.size → ∀ w1, w1.heap[g]? = some (.cells cs t (0, 0)) → Below W.heap.size W w1 → wpList P ops Q rest (a.put o.dst (.slice (some ⟨g, 0, none⟩) n n)) w1) : wpList P ops Q (o :: rest) a W :=
  Kd.event_run hgd hrun (h _ rfl _ (blk_new W _) (below_alloc (Below.refl _ _) _))
/-- A row of the region's own making. -/
theorem row_step {P : Program} {ops : Array Oper} {Q : Exit → Act → World → Prop} {o : Oper} {a : Act} {Kc : Act → World → Prop} {W : World} (hw : Region.wanted o (yielded ops a.tmps) = true) {N : Option Tmp} (hd : o.dst = N) {cs : Array Value} {t : TypeId} {n : Nat}
    (hrun : (execOp a.eval o).run P W = .ok (.value (.slice (some ⟨W.heap.size, 0, none⟩) n n)) (W.alloc (.cells cs t (0, 0))))
    (h : ∀ g, g = W.heap.size → ∀ w1, w1.heap[g]? = some (.cells cs t (0, 0)) → Below W.heap.size W w1 → Kc (a.put N (.slice (some ⟨g, 0, none⟩) n n)) w1) : if Region.wanted o (yielded ops a.tmps) = true then Oper.wp P o a W Kc Q else Kc (a.put N undef) W := by
  subst hd
  rw [if_pos hw]
  unfold Oper.wp
  rw [hrun]
  exact h _ rfl _ (blk_new W _) (below_alloc (Below.refl _ _) _)
/-- A box of the region's own making. -/
theorem boxN_step {P : Program} {ops : Array Oper} {Q : Exit → Act → World → Prop} {o : Oper} {a : Act} {Kc : Act → World → Prop} {W : World} (hw : Region.wanted o (yielded ops a.tmps) = true) {N : Option Tmp} (hd : o.dst = N) {cs : Array Value} {t : TypeId}
    (hrun : (execOp a.eval o).run P W = .ok (.value (.pointer (some ⟨W.heap.size, 0, none⟩))) (W.alloc (.cells cs t (0, 0))))
    (h : ∀ g, g = W.heap.size → ∀ w1, w1.heap[g]? = some (.cells cs t (0, 0)) → Below W.heap.size W w1 → Kc (a.put N (.pointer (some ⟨g, 0, none⟩))) w1) : if Region.wanted o (yielded ops a.tmps) = true then Oper.wp P o a W Kc Q else Kc (a.put N undef) W := by
  subst hd
  rw [if_pos hw]
  unfold Oper.wp
  rw [hrun]
  exact h _ rfl _ (blk_new W _) (below_alloc (Below.refl _ _) _)
/-- A call of a function value in a region that draws its order. -/
theorem goesT_ {P : Program} {ops : Array Oper} {Q : Exit → Act → World → Prop} {oi : Oper} {N : Option Tmp} {a : Act} {w : World} {K : Act → World → Prop} {f : FuncId} {fn : Func} {xs : Array Operand} {ts : Array TypeId} {t : Tmp} {lb : Array Value} (hf : P.funcs[f]? = some fn) (hname : (fn.name == "runtime.NumGoroutine") = false) (hb : fn.body.isSome = true) (args : Array Value)
    (hw : Region.wanted oi (yielded ops a.tmps) = true) (hN : oi.dst = N) (hop : oi.op = .call { callee := .value (.tmp t), args := xs, argTypes := ts }) (hv : a.eval (.tmp t) = .func (.func f) #[] lb) (hargs : xs.map a.eval = args)
    (h : Calls P f (args ++ lb) w fun e w' => ∃ v, e = .returned v ∧ K (a.put N v) w') : if Region.wanted oi (yielded ops a.tmps) = true then Oper.wp P oi a w K Q else K (a.put N undef) w := by
  refine call_ f (args ++ lb) hw hN ?_ h
  have he := enters_ hf hname hb (args ++ lb) w
  unfold execOp
  simp [hop, resolve, Deferred.ofValue, invoke, hv, hargs, he]
set_option maxHeartbeats 2000000 in
set_option maxRecDepth 100000 in
theorem answers_any (A : Option Addr) (c : Nat) (l : List Int) (round : Int) {w : World} :
    Calls Try.prog 11 #[.slice A l.length c, .int .i64 round] w fun e w' => ∃ gl gr : Nat, e = .returned (.func (.func 34) #[] #[.pointer (some ⟨gl, 0, none⟩), .pointer (some ⟨gr, 0, none⟩)]) ∧ w'.cell? ⟨gl, 0, none⟩ = some (.slice A l.length c) ∧ w'.cell? ⟨gr, 0, none⟩ = some (.int .i64 round) ∧ Below w.heap.size w w' := by
  go_enter Try.func11, Try.ntmps11
  go_wp2_with (first | ((with_reducible refine gate_dst (N := 2) rfl ?_); refine box_event ?hg (N := 2) ?hd (cs := #[.slice A l.length c]) (t := 22) ?hr ?_; (case hd => rfl); (case hg => rfl); (case hr => first | (go_simp; done) | (go_simp; rfl)); intro gl hg w1 hbox hb; have B1 := Aside0.mk hbox; have HB1 := Aside0.mk hb; clear hg hbox hb) | ((with_reducible refine gate_dst (N := 3) rfl ?_); refine box_event ?hg (N := 3) ?hd (cs := #[.int .i64 round]) (t := 3) ?hr ?_; (case hd => rfl); (case hg => rfl); (case hr => first | (go_simp; done) | (go_simp; rfl)); intro gr hg w2 hbox hb; have B2 := Aside0.mk hbox; have B12 := Aside0.mk (blk_below B1.out hb); have HB2 := Aside0.mk (HB1.out.trans (hb.mono HB1.out.size)); clear hg hbox hb))
  go_ret
  exact ⟨gl, gr, rfl, (blk_cell B12.out 0).trans rfl, (blk_cell B2.out 0).trans rfl, HB2.out⟩
/-- What Answers makes, at the world where it is handed over. -/
theorem asks_answers {W0 : World} {A : Option Addr} {c : Nat} {l : List Int} {round : Int} {gl gr : Nat} (hl : W0.cell? ⟨gl, 0, none⟩ = some (.slice A l.length c)) (hr : W0.cell? ⟨gr, 0, none⟩ = some (.int .i64 round)) (hC : Kd.C (Kd.int .i64) W0 A l.length l) :
    Asks W0 (fun k => Al k ∧ k < W0.heap.size) (fun w (_ : Unit) => Below W0.heap.size W0 w) (.func (.func 34) #[] #[.pointer (some ⟨gl, 0, none⟩), .pointer (some ⟨gr, 0, none⟩)]) (fun _ x => (ansV l round x, ())) :=
  asks_pure (ansV l round) Try.func34 (by kernel_rfl) rfl fun w x hb => by
    have e : ∀ {p : Addr} {v : Value}, W0.cell? p = some v → w.cell? p = some v := fun {p} {v} h => (cell_same (hb.block _ (World.block_lt_of_cell? W0 _ h))).trans h
    exact ask_any gl gr A c l round x (e hl) (e hr) (Kd.C_below hC hb)
end Go.Proofs.Ytbpgfjfkogdolaa.TreeStepsTreeAsks
