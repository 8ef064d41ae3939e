/- The memory of a behaviour tree's walker: what it holds, what its calls keep; a call of a function value with captured variables. Under no condition but what stands at each. -/
import Derived.Test.YtbpgfjfkogdolaaTreePlainTreeAsks
import Derived.Test.YtbpgfjfkogdolaaCalm
import Derived.Laws.CopyOwn
import Derived.Laws.IdiomCopy
import Derived.Lib.SliceRun
import Derived.StillTailTactics
namespace Go.Proofs.Ytbpgfjfkogdolaa.TreeMemTreeAsks
open Go Go.RowKit Go.Proofs.YtbpgfjfkogdolaaW.PrintWords Go.Proofs.YtbpgfjfkogdolaaW.PrintLast Go.Proofs.YtbpgfjfkogdolaaW.PrintMore Go.Proofs.Ytbpgfjfkogdolaa.PTreeAsks Go.Proofs.Ytbpgfjfkogdolaa.Fnv Go.Proofs.Ytbpgfjfkogdolaa.TreePlainTreeAsks
set_option linter.unusedVariables false

section
variable {P : Program} {ops : Array Oper} {Q : Exit → Act → World → Prop} {rest : List Oper}
/-- A call of a function value that has captured variables. -/
theorem goesC_ {oi : Oper} {a : Act} {w : World} (N : Option Tmp) (hd : oi.dst = N) (hg : oi.guard = none) {f : FuncId} {fn : Func} {t : Tmp} {xs : Array Operand} {ts : Array TypeId} {lb : Array Value} (hf : P.funcs[f]? = some fn) (hname : (fn.name == "runtime.NumGoroutine") = false) (hb : fn.body.isSome = true) (args : Array Value)
    (hop : oi.op = .call { callee := .value (.tmp t), args := xs, argTypes := ts }) (hv : a.eval (.tmp t) = .func (.func f) #[] lb) (hargs : xs.map a.eval = args)
    (h : Calls P f (args ++ lb) w fun e w' => ∃ v, e = .returned v ∧ wpList P ops Q rest (a.put N v) w') : wpList P ops Q (oi :: rest) a w := by
  refine wpList_plain hg fun K hK => ?_
  have he := enters_ hf hname hb (args ++ lb) w
  have hrun : (execOp a.eval oi).run P w = .ok (.enter f (args ++ lb)) w := by
    unfold execOp
    simp [hop, resolve, Deferred.ofValue, invoke, hv, hargs, he]
  unfold Oper.wp
  rw [hrun, Oper.upon_enter]
  refine h.mono fun e w'' hh => ?_
  obtain ⟨v, rfl, hk⟩ := hh
  subst hd
  exact hK _ _ hk
end

/-- From block B on, only block g may have changed. -/
structure Kp (B g : Nat) (w w' : World) : Prop where
  size : w.heap.size ≤ w'.heap.size
  block : ∀ j, B ≤ j → j < w.heap.size → j ≠ g → w'.heap[j]? = w.heap[j]?
theorem Kp.refl (B g : Nat) (w : World) : Kp B g w w := ⟨Nat.le_refl _, fun _ _ _ _ => rfl⟩
theorem Kp.trans {B g : Nat} {w w1 w2 : World} (h : Kp B g w w1) (k : Kp B g w1 w2) : Kp B g w w2 :=
  ⟨Nat.le_trans h.size k.size, fun j h1 h2 h3 => (k.block j h1 (Nat.lt_of_lt_of_le h2 h.size) h3).trans (h.block j h1 h2 h3)⟩
theorem Kp.of {B g : Nat} {w w1 : World} (h : Below w.heap.size w w1) : Kp B g w w1 := ⟨h.size, fun j _ h2 _ => h.block j h2⟩
theorem Kp.blk {B g b : Nat} {w w1 : World} {o : Obj} (h : Kp B g w w1) (hb : w.heap[b]? = some o) (h1 : B ≤ b) (h2 : b ≠ g) : w1.heap[b]? = some o := (h.block b h1 (blk_lt hb) h2).trans hb
theorem Kp.set {B g : Nat} (w : World) (i : Nat) (v : Value) : Kp B g w (w.setCell ⟨g, i, none⟩ v) :=
  ⟨by simp [World.setCell], fun j _ _ h => Below.heap_setCell w _ _ j h⟩

/-- What the walker (block gW, its row gM) holds; Inv: what the function that is asked has and needs. -/
structure St {σ : Type} (Inv : World → σ → Prop) (B gW gM : Nat) (av : Value) (w : World) (m : List Int) (s : σ) : Prop where
  hw : w.heap[gW]? = some (.cells #[.slice (some ⟨gM, 0, none⟩) m.length m.length, av] 60 (0, 0))
  hm : w.heap[gM]? = some (.cells (m.map (Value.int .i64)).toArray 3 (0, 0))
  iv : Inv w s
  le : B ≤ w.heap.size
/-- What is known of the walker's blocks, of the tree's memory (ok, as it was in W0) and of the function that is asked. -/
structure Env {σ : Type} (W0 : World) (ok : Nat → Prop) (Inv : World → σ → Prop) (B gW gM : Nat) (av : Value) (an : σ → ByteArray → Int × σ) : Prop where
  bW : B ≤ gW
  bM : B ≤ gM
  ne : gW ≠ gM
  stab : ∀ {w w' : World} {s : σ}, Inv w s → Below B w w' → Inv w' s
  tree : ∀ {w : World} {s : σ}, Inv w s → ∀ k, ok k → k < W0.heap.size → w.heap[k]? = W0.heap[k]?
  ask : ∃ (g : FuncId) (lb : Array Value) (fn : Func), av = .func (.func g) #[] lb ∧ Try.prog.funcs[g]? = some fn ∧ (fn.name == "runtime.NumGoroutine") = false ∧ fn.body.isSome = true ∧
    ∀ (w : World) (s : σ) (x : ByteArray), Inv w s → B ≤ w.heap.size → Calls Try.prog g (#[.string x] ++ lb) w fun e w' => e = .returned (.int .i64 (an s x).1) ∧ Inv w' (an s x).2 ∧ w.heap.size ≤ w'.heap.size ∧ ∀ j, B ≤ j → j < w.heap.size → w'.heap[j]? = w.heap[j]?
/-- The kids of a node, in memory that nobody turns. -/
abbrev Tr (W0 : World) (ok : Nat → Prop) (A : Option Addr) (l : List Nd) : Prop := Kd.F k25 W0 ok A l.length l
theorem cell_same {w w' : World} {a : Addr} (h : w'.heap[a.block]? = w.heap[a.block]?) : w'.cell? a = w.cell? a := by simp [World.cell?, h]
theorem Tr.elem {W0 : World} {ok : Nat → Prop} {A : Option Addr} {l : List Nd} (h : Tr W0 ok A l) (i : Int) (h0 : 0 ≤ i) (h1 : i < l.length) : ∃ ad A3 c3, A = some ad ∧ (rdN l i).f3.length ≤ c3 ∧ Tr W0 ok A3 (rdN l i).f3 ∧
    ∀ w : World, (∀ k, ok k → k < W0.heap.size → w.heap[k]? = W0.heap[k]?) → w.cell? (ad.add (i.toNat * 4)) = some (.int .i64 (rdN l i).f0) ∧ w.cell? ⟨(ad.add (i.toNat * 4)).block, (ad.add (i.toNat * 4)).off + 1, none⟩ = some (.string (rdN l i).f1) ∧ w.cell? ⟨(ad.add (i.toNat * 4)).block, (ad.add (i.toNat * 4)).off + 2, none⟩ = some (.int .i64 (rdN l i).f2) ∧ w.cell? ⟨(ad.add (i.toNat * 4)).block, (ad.add (i.toNat * 4)).off + 3, none⟩ = some (.slice A3 (rdN l i).f3.length c3) := by
  obtain ⟨ad, c, rfl, hl, hF, hc0, hok⟩ := Kd.F_get h z25 i h0 h1
  have hc : ∀ j u, c[j]? = some u → W0.cell? (ad.add (i.toNat * 4 + j)) = some u := hc0
  obtain ⟨A3, c3, rfl, l3, g3⟩ := k25_openF hF
  refine ⟨ad, A3, c3, rfl, l3, g3, fun w hw => ?_⟩
  have hb : w.heap[ad.block]? = W0.heap[ad.block]? := by
    have h5 := World.block_lt_of_cell? W0 _ (hc 0 _ rfl)
    rw [add_block] at h5
    exact hw _ (hok (by decide)) h5
  have hs : ∀ j, w.cell? (ad.add (i.toNat * 4 + j)) = W0.cell? (ad.add (i.toNat * 4 + j)) := fun j => cell_same (by rw [add_block]; exact hb)
  exact ⟨(hs 0).trans (hc 0 _ rfl), by rw [← add_field _ _ 1 (by omega)]; exact (hs 1).trans (hc 1 _ rfl), by rw [← add_field _ _ 2 (by omega)]; exact (hs 2).trans (hc 2 _ rfl), by rw [← add_field _ _ 3 (by omega)]; exact (hs 3).trans (hc 3 _ rfl)⟩
theorem Tr.elem0 {W0 : World} {ok : Nat → Prop} {A : Option Addr} {l : List Nd} (h : Tr W0 ok A l) (h1 : 0 < l.length) : ∃ ad A3 c3, A = some ad ∧ (rdN l 0).f3.length ≤ c3 ∧ Tr W0 ok A3 (rdN l 0).f3 ∧
    ∀ w : World, (∀ k, ok k → k < W0.heap.size → w.heap[k]? = W0.heap[k]?) → w.cell? ad = some (.int .i64 (rdN l 0).f0) ∧ w.cell? ⟨ad.block, ad.off + 1, none⟩ = some (.string (rdN l 0).f1) ∧ w.cell? ⟨ad.block, ad.off + 2, none⟩ = some (.int .i64 (rdN l 0).f2) ∧ w.cell? ⟨ad.block, ad.off + 3, none⟩ = some (.slice A3 (rdN l 0).f3.length c3) := by
  obtain ⟨ad, A3, c3, rfl, hc, hT, hw⟩ := h.elem 0 (by omega) (by omega)
  refine ⟨ad, A3, c3, rfl, hc, hT, fun w h => ?_⟩
  have e : ad.add (Int.toNat 0 * 4) = ad := by simp [Addr.add]
  have := hw w h
  rwa [e] at this
theorem Tr.now {W0 : World} {ok : Nat → Prop} {A : Option Addr} {l : List Nd} (h : Tr W0 ok A l) {w : World} (hw : ∀ k, ok k → k < W0.heap.size → w.heap[k]? = W0.heap[k]?) : Kd.C k25 w A l.length l := h w hw
section
variable {σ : Type} {W0 : World} {ok : Nat → Prop} {Inv : World → σ → Prop} {B gW gM : Nat} {av : Value} {an : σ → ByteArray → Int × σ} {w w1 : World} {m : List Int} {s : σ}
theorem St.below (E : Env W0 ok Inv B gW gM av an) (h : St Inv B gW gM av w m s) (hb : Below w.heap.size w w1) : St Inv B gW gM av w1 m s :=
  ⟨blk_below h.hw hb, blk_below h.hm hb, E.stab h.iv (hb.mono h.le), Nat.le_trans h.le hb.size⟩
theorem St.drew (E : Env W0 ok Inv B gW gM av an) (h : St Inv B gW gM av w m s) : St Inv B gW gM av w.drew m s := h.below E (Below.refl _ _).drew
/-- What a call leaves that may have turned what the asked function has. -/
theorem St.asked (E : Env W0 ok Inv B gW gM av an) (h : St Inv B gW gM av w m s) {s1 : σ} (hi : Inv w1 s1) (hs : w.heap.size ≤ w1.heap.size) (hk : ∀ j, B ≤ j → j < w.heap.size → w1.heap[j]? = w.heap[j]?) : St Inv B gW gM av w1 m s1 ∧ Kp B gM w w1 :=
  ⟨⟨(hk _ E.bW (blk_lt h.hw)).trans h.hw, (hk _ E.bM (blk_lt h.hm)).trans h.hm, hi, Nat.le_trans h.le hs⟩, hs, fun j h1 h2 _ => hk j h1 h2⟩
theorem St.len {w' : World} {m' : List Int} {s' : σ} (E : Env W0 ok Inv B gW gM av an) (h : St Inv B gW gM av w m s) (h' : St Inv B gW gM av w' m' s') (k : Kp B gM w w') : m'.length = m.length := by
  have e := (k.blk h.hw E.bW E.ne).symm.trans h'.hw
  injection e with e
  injection e with e
  simpa using e.symm
theorem St.set (E : Env W0 ok Inv B gW gM av an) (h : St Inv B gW gM av w m s) (i : Nat) (v : Int) : St Inv B gW gM av (w.setCell ⟨gM, i, none⟩ (.int .i64 v)) (m.set i v) s := by
  refine ⟨?_, ?_, E.stab h.iv ((Below.refl _ _).setCell E.bM _), by simpa [World.setCell] using h.le⟩
  · rw [List.length_set]; exact blk_far h.hw E.ne _
  · exact blk_put h.hm i _ (by simp [List.map_set])
theorem zero3 (w : World) : (zeroValue 3).run Try.prog w = .ok (.int .i64 0) w := by kernel_rfl
theorem clear_at (E : Env W0 ok Inv B gW gM av an) (h : St Inv B gW gM av w m s) (a b : Nat) (h1 : a < b) (h2 : b ≤ m.length) (c : Nat) (ty : TypeId) :
    (Builtin.clear_ #[22] ty #[.slice (some ⟨gM, a, none⟩) (b - a) c]).run Try.prog w = .ok (.tuple #[]) (w.setCells gM a (List.replicate (b - a) (.int .i64 0))) :=
  Lib.run_clear_slice w 22 3 ty (.int .i64 0) Try.underlying22 zero3 rfl rfl gM a (b - a) c (by omega)
    (fun j hj => by rw [blk_cell h.hm]; simp; omega) (fun j _ => blk_frozen h.hm _)
theorem Kp.setCells {B g : Nat} : ∀ (vs : List Value) (w : World) (i : Nat), Kp B g w (w.setCells g i vs)
  | [], w, i => Kp.refl _ _ _
  | v :: vs, w, i => (Kp.set w i v).trans (Kp.setCells vs _ _)
theorem St.setCells (E : Env W0 ok Inv B gW gM av an) : ∀ (vs : List Int) (w : World) (m : List Int) (i : Nat), i + vs.length ≤ m.length → St Inv B gW gM av w m s → St Inv B gW gM av (w.setCells gM i (vs.map (Value.int .i64))) (laid m i vs) s
  | [], w, m, i, _, h => by
    show St Inv B gW gM av w (laid m i []) s
    rw [show laid m i [] = m by simp [laid]]
    exact h
  | v :: vs, w, m, i, hi, h => by
    have hi' : i + (vs.length + 1) ≤ m.length := by simpa using hi
    have h2 := St.setCells E vs _ (m.set i v) (i + 1) (by rw [List.length_set]; omega) (h.set E i v)
    have e : laid (m.set i v) (i + 1) vs = laid m i (v :: vs) := by
      unfold laid
      have hl : i < m.length := by omega
      rw [List.take_succ_eq_append_getElem (by rw [List.length_set]; exact hl), List.getElem_set_self, List.take_set_of_le (Nat.le_refl i), List.drop_set_of_lt (by omega)]
      simp [Nat.add_comm, Nat.add_left_comm]
    rw [e] at h2
    exact h2
theorem wipe_laid (m : List Int) (a b : Nat) (h1 : a < b) : wipe m a b = laid m a (List.replicate (b - a) 0) := by
  unfold wipe laid
  rw [List.length_replicate, show a + (b - a) = b by omega]
theorem St.wipe (E : Env W0 ok Inv B gW gM av an) (h : St Inv B gW gM av w m s) (a b : Nat) (h1 : a < b) (h2 : b ≤ m.length) : St Inv B gW gM av (w.setCells gM a (List.replicate (b - a) (.int .i64 0))) (wipe m a b) s := by
  rw [wipe_laid m a b h1]
  have := St.setCells E (List.replicate (b - a) 0) w m a (by simp; omega) h
  simpa using this
end
end Go.Proofs.Ytbpgfjfkogdolaa.TreeMemTreeAsks
