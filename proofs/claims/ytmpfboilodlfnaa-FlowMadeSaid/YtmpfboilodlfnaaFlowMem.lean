/- The methods of flow.fars, in memory. Under the conditions that stand at each. -/
import Derived.Test.YtmpfboilodlfnaaProg
import Derived.Below
import Derived.Deep.Draws
import Derived.Deep.AppendLies
import Derived.Maps.AppendAt
import Derived.OwnWalk
import Derived.Laws.BytesArg
import Derived.Laws.MakeOwn
import Derived.Laws.OwnMore
import Derived.Deep.OwnRows
import Derived.Tactics
import Derived.Lib.ConvBytes
import Derived.Laws.Slices
import Derived.WalkKit
import Derived.KernelRfl
import Derived.RowKit3
import Derived.Deep.LoopGhost
import Derived.Deep.QuietTactic
import Derived.BigQuiet
import Derived.WideLaws
import Derived.Deep.DeepCutAuto
import Derived.Deep.CutBlock
import Derived.Deep.RegionHeld3
import Derived.Laws.Rows
import Derived.Lib.AppendStr
import Derived.ArgAppend
import Derived.Laws.IdiomCopy
import Derived.OrdersHeld
import Derived.Laws.BitsLemmas
import Derived.RowKit
import Derived.Test.YtmpfboilodlfnaaFnv
import Derived.Test.YtmpfboilodlfnaaAry
import Derived.Test.YtmpfboilodlfnaaWWords
import Derived.Test.YtmpfboilodlfnaaWLast
import Derived.Test.YtmpfboilodlfnaaWTab
import Derived.Test.YtmpfboilodlfnaaWQPut
import Derived.Test.YtmpfboilodlfnaaWApart
import Derived.Test.YtmpfboilodlfnaaWArr
import Derived.Test.YtmpfboilodlfnaaWZeros
import Derived.Test.YtmpfboilodlfnaaWFoot
import Derived.Test.YtmpfboilodlfnaaWKept
import Derived.Test.YtmpfboilodlfnaaWShare
import Derived.Test.YtmpfboilodlfnaaWN
import Derived.Test.YtmpfboilodlfnaaWRepsOne
import Derived.Test.YtmpfboilodlfnaaWNEv
import Derived.Test.YtmpfboilodlfnaaWMore
import Derived.Test.YtmpfboilodlfnaaCalm
import Derived.Test.YtmpfboilodlfnaaFlowHeap
import Derived.Outline
namespace Go.Proofs.Ytmpfboilodlfnaa.FlowMem
open Go Go.RowKit Go.Proofs.Ytmpfboilodlfnaa.Fnv Go.Proofs.YtmpfboilodlfnaaW.PrintWords Go.Proofs.YtmpfboilodlfnaaW.PrintLast Go.Proofs.YtmpfboilodlfnaaW.PrintMore Go.Proofs.Ytmpfboilodlfnaa.FlowHeap
set_option linter.unusedVariables false
set_option linter.unusedSimpArgs false
/-- The cells of a row of cells with their costs. -/
def flat : List Far → List Value
  | [] => []
  | x :: l => .int .i64 x.1 :: .int .i64 x.2 :: flat l
theorem flat_length : ∀ l : List Far, (flat l).length = l.length * 2
  | [] => rfl
  | x :: l => by simp only [flat, List.length_cons, flat_length l]; omega
theorem flat_append : ∀ l m : List Far, flat (l ++ m) = flat l ++ flat m
  | [], m => rfl
  | x :: l, m => by simp only [flat, List.cons_append, flat_append l m]
theorem flat_at : ∀ (l : List Far) (i : Nat), i < l.length → (flat l)[i * 2]? = some (.int .i64 (at_ l i).1) ∧ (flat l)[i * 2 + 1]? = some (.int .i64 (at_ l i).2)
  | [], _, h => by simp at h
  | x :: l, 0, _ => ⟨rfl, rfl⟩
  | x :: l, i + 1, h => by
    have := flat_at l i (by simpa using h)
    rw [show (i + 1) * 2 = i * 2 + 1 + 1 by omega]
    exact this
theorem flat_set : ∀ (l : List Far) (i : Nat) (x : Far), flat (l.set i x) = ((flat l).set (i * 2) (.int .i64 x.1)).set (i * 2 + 1) (.int .i64 x.2)
  | [], _, _ => rfl
  | y :: l, 0, _ => rfl
  | y :: l, i + 1, x => by
    rw [show (i + 1) * 2 = i * 2 + 1 + 1 by omega]
    simp only [List.set_cons_succ, flat]
    rw [flat_set l i x]
theorem flat_take : ∀ (l : List Far) (n : Nat), (flat l).take (n * 2) = flat (l.take n)
  | [], n => by simp [flat]
  | x :: l, 0 => rfl
  | x :: l, n + 1 => by
    rw [show (n + 1) * 2 = n * 2 + 1 + 1 by omega]
    simp only [flat, List.take_succ_cons, flat_take l n]
theorem flat_one : ∀ (l : List Far) (u : Value), u ∈ flat l → u.oneCell' = true
  | [], u, h => by simp [flat] at h
  | x :: l, u, h => by
    simp only [flat, List.mem_cons] at h
    rcases h with rfl | rfl | h
    · rfl
    · rfl
    · exact flat_one l u h
/-- A row in its block, and what stands behind it there. -/
def RowF (w : World) (g : Nat) (l : List Far) (tl : List Value) : Prop := w.heap[g]? = some (.cells (flat l ++ tl).toArray 52 (0, 0))
section
variable {w w' : World} {g : Nat} {l : List Far} {tl : List Value}
theorem RowF.cell (h : RowF w g l tl) {i : Nat} (hi : i < l.length) : w.cell? ⟨g, i * 2, none⟩ = some (.int .i64 (at_ l i).1) ∧ w.cell? ⟨g, i * 2 + 1, none⟩ = some (.int .i64 (at_ l i).2) := by
  have hl := flat_length l
  obtain ⟨h1, h2⟩ := flat_at l i hi
  refine ⟨(blk_cell h _).trans ?_, (blk_cell h _).trans ?_⟩ <;> rw [List.getElem?_toArray, List.getElem?_append_left (by omega)]
  · exact h1
  · exact h2
theorem RowF.below (h : RowF w g l tl) (hb : Below w.heap.size w w') : RowF w' g l tl := blk_below h hb
theorem RowF.frozen (h : RowF w g l tl) (i : Nat) : w.frozen? ⟨g, i, none⟩ = false := blk_frozen h i
theorem RowF.set (h : RowF w g l tl) {i : Nat} (hi : i < l.length) (x : Far) : RowF ((w.setCell ⟨g, i * 2, none⟩ (.int .i64 x.1)).setCell ⟨g, i * 2 + 1, none⟩ (.int .i64 x.2)) g (l.set i x) tl := by
  have hl := flat_length l
  refine blk_put (blk_put h _ _ rfl) _ _ ?_
  simp only [List.setIfInBounds_toArray]
  rw [flat_set, List.set_append_left _ _ (by omega), List.set_append_left _ _ (by rw [List.length_set]; omega)]
end
/-- Of the blocks that there are from B on, only block g may have changed. -/
structure Kg (W : World) (g : Nat) (w : World) : Prop where
  bel : Below g W w
  lt : g < W.heap.size
  block : ∀ j, j < W.heap.size → j ≠ g → w.heap[j]? = W.heap[j]?
theorem Kg.size {W w : World} {g : Nat} (h : Kg W g w) : W.heap.size ≤ w.heap.size := h.bel.size
theorem Kg.refl (W : World) (g : Nat) (hg : g < W.heap.size) : Kg W g W := ⟨Below.refl _ _, hg, fun _ _ _ => rfl⟩
theorem Kg.below {W w w' : World} {g : Nat} (h : Kg W g w) (hb : Below w.heap.size w w') : Kg W g w' := ⟨h.bel.trans (hb.mono (Nat.le_trans (Nat.le_of_lt h.lt) h.size)), h.lt, fun j h1 h2 => (hb.block j (Nat.lt_of_lt_of_le h1 h.size)).trans (h.block j h1 h2)⟩
theorem Kg.set {W w : World} {g : Nat} (h : Kg W g w) (i : Nat) (v : Value) : Kg W g (w.setCell ⟨g, i, none⟩ v) := ⟨h.bel.setCell (Nat.le_refl _) v, h.lt, fun j h1 h2 => (Below.heap_setCell w _ _ j h2).trans (h.block j h1 h2)⟩
theorem Kg.trans {W w w' : World} {g : Nat} (h : Kg W g w) (k : Kg w g w') : Kg W g w' := ⟨h.bel.trans k.bel, h.lt, fun j h1 h2 => (k.block j (Nat.lt_of_lt_of_le h1 h.size) h2).trans (h.block j h1 h2)⟩
theorem Kg.blk {W w : World} {g b : Nat} {o : Obj} (h : Kg W g w) (hb : W.heap[b]? = some o) (hne : b ≠ g) : w.heap[b]? = some o := (h.block b (blk_lt hb) hne).trans hb
section
variable {P : Program} {ops : Array Oper} {Q : Exit → Act → World → Prop} {rest : List Oper}
theorem invoke_run {oi : Oper} {a : Act} {w : World} {t : Tmp} {name : String} {T : TypeId} {rv r : Value} {f : FuncId} {fn : Func} {xs : Array Operand} {ts : Array TypeId} (hf : P.funcs[f]? = some fn) (hname : (fn.name == "runtime.NumGoroutine") = false) (hb : fn.body.isSome = true) (args : Array Value)
    (hop : oi.op = .call { callee := .invoke (.tmp t) name, args := xs, argTypes := ts }) (hv : a.eval (.tmp t) = .iface T rv) (hm : (method (P.types.size + Made.depth) T rv name).run P w = .ok (f, r) w) (hargs : xs.map a.eval = args) : (execOp a.eval oi).run P w = .ok (.enter f (#[r] ++ args)) w := by
  have he := enters_ hf hname hb (#[r] ++ args) w
  have ex : (#[Value.iface T rv] ++ args).extract 1 (args.size + 1) = args := by
    apply Array.ext'
    simp
  have e0 : (#[Value.iface T rv] ++ args)[0]? = some (.iface T rv) := by rw [Array.getElem?_append_left (Nat.zero_lt_one)]; rfl
  have es : (#[Value.iface T rv] ++ args).size = args.size + 1 := by rw [Array.size_append]; exact Nat.add_comm _ _
  unfold execOp
  simp only [hop, resolve, invoke, hv, hargs, Sem.run_bind, Sem.run_pure, Result.andThen_ok, e0, es, ex, callMethod, run_program, hm, he]
/-- A call of a method through an interface value. -/
theorem goesI_ {oi : Oper} {a : Act} {w : World} (N : Option Tmp) (hd : oi.dst = N) (hw : Region.wanted oi (yielded ops a.tmps) = true) {t : Tmp} {name : String} {T : TypeId} {rv r : Value} {f : FuncId} {fn : Func} {xs : Array Operand} {ts : Array TypeId} (hf : P.funcs[f]? = some fn) (hname : (fn.name == "runtime.NumGoroutine") = false) (hb : fn.body.isSome = true) (args : Array Value)
    (hop : oi.op = .call { callee := .invoke (.tmp t) name, args := xs, argTypes := ts }) (hv : a.eval (.tmp t) = .iface T rv) (hm : (method (P.types.size + Made.depth) T rv name).run P w = .ok (f, r) w) (hargs : xs.map a.eval = args) (all : Array Value) (hall : #[r] ++ args = all)
    (h : Calls P f all w fun e w' => ∃ v, e = .returned v ∧ wpList P ops Q rest (a.put N v) w') : wpList P ops Q (oi :: rest) a w := by
  subst hall
  refine wpList_step fun K hK => ?_
  rw [if_pos hw]
  unfold Oper.wp
  rw [invoke_run hf hname hb args hop hv hm hargs, Oper.upon_enter]
  refine h.mono fun e w'' hh => ?_
  obtain ⟨v, rfl, hk⟩ := hh
  subst hd
  exact hK _ _ hk
theorem gate_inv {o : Oper} {a : Act} {W : World} {t : Tmp} {name : String} {xs : Array Operand} {ts : Array TypeId} (_ho : o.op = .call { callee := .invoke (.tmp t) name, args := xs, argTypes := ts }) (h : wpList P ops Q (o :: rest) a W) : wpList P ops Q (o :: rest) a W := h
end
abbrev tP : TypeId := 47
section
variable {w : World} {gh : Nat} {v : Value}
theorem meth_val (name : String) (f : FuncId) (hfind : ((Try.prog.info? tP).map fun i => (i.methods.find? (·.name == name)).map fun m => (m.path.isEmpty, m.func)) = some (some (true, some (f, false)))) (hc : w.cell? ⟨gh, 0, none⟩ = some v) (hv : v.cells = #[v]) :
    (method (Try.prog.types.size + Made.depth) tP (.pointer (some ⟨gh, 0, none⟩)) name).run Try.prog w = .ok (f, v) w := by
  obtain ⟨i, hi, hz⟩ := Option.map_eq_some_iff.1 hfind
  obtain ⟨m, hm, hmm⟩ := Option.map_eq_some_iff.1 hz
  simp only [Prod.mk.injEq] at hmm
  obtain ⟨hp, hfn⟩ := hmm
  have hpath : m.path = #[] := by simpa using hp
  obtain ⟨k, hk⟩ : ∃ k, Try.prog.types.size + Made.depth = k + 1 := ⟨Try.prog.types.size + 99, rfl⟩
  rw [hk]
  unfold method
  simp only [Sem.run_bind, run_typeInfo w hi, Result.andThen_ok, hm, hpath, follow, Sem.run_pure, hfn]
  unfold receiverAt
  have hu : Try.prog.underlying tP = some (.pointer 49) := by kernel_rfl
  simp only [Sem.run_bind, run_underlying hu, Result.andThen_ok]
  go_simp
  have hck : ∀ s : String, Sem.run Try.prog (Builtin.ssaWrapNilChk_ #[tP] tP #[.pointer (some ⟨gh, 0, none⟩), strVal "", strVal s]) w = .ok (.pointer (some ⟨gh, 0, none⟩)) w := fun s => rfl
  simp only [Place.get, Sem.run_pure, Result.andThen_ok, hck, hc]
theorem meth_ptr (name : String) (f : FuncId) (hfind : ((Try.prog.info? tP).map fun i => (i.methods.find? (·.name == name)).map fun m => (m.path.isEmpty, m.func)) = some (some (true, some (f, true)))) (a : Value) :
    (method (Try.prog.types.size + Made.depth) tP a name).run Try.prog w = .ok (f, a) w := by
  obtain ⟨i, hi, hz⟩ := Option.map_eq_some_iff.1 hfind
  obtain ⟨m, hm, hmm⟩ := Option.map_eq_some_iff.1 hz
  simp only [Prod.mk.injEq] at hmm
  obtain ⟨hp, hfn⟩ := hmm
  have hpath : m.path = #[] := by simpa using hp
  obtain ⟨k, hk⟩ : ∃ k, Try.prog.types.size + Made.depth = k + 1 := ⟨Try.prog.types.size + 99, rfl⟩
  rw [hk]
  unfold method
  simp only [Sem.run_bind, run_typeInfo w hi, Result.andThen_ok, hm, hpath, follow, Sem.run_pure, hfn]
  unfold receiverAt
  have hu : Try.prog.underlying tP = some (.pointer 49) := by kernel_rfl
  simp only [Sem.run_bind, run_underlying hu, Result.andThen_ok]
  rfl
theorem find_len : ((Try.prog.info? tP).map fun i => (i.methods.find? (·.name == "Len")).map fun m => (m.path.isEmpty, m.func)) = some (some (true, some (28, false))) := by kernel_rfl
theorem find_less : ((Try.prog.info? tP).map fun i => (i.methods.find? (·.name == "Less")).map fun m => (m.path.isEmpty, m.func)) = some (some (true, some (55, false))) := by kernel_rfl
theorem find_swap : ((Try.prog.info? tP).map fun i => (i.methods.find? (·.name == "Swap")).map fun m => (m.path.isEmpty, m.func)) = some (some (true, some (58, false))) := by kernel_rfl
theorem find_push : ((Try.prog.info? tP).map fun i => (i.methods.find? (·.name == "Push")).map fun m => (m.path.isEmpty, m.func)) = some (some (true, some (57, true))) := by kernel_rfl
theorem find_pop : ((Try.prog.info? tP).map fun i => (i.methods.find? (·.name == "Pop")).map fun m => (m.path.isEmpty, m.func)) = some (some (true, some (56, true))) := by kernel_rfl
end
section
variable {w : World} {g : Nat} {l : List Far} {tl : List Value}
set_option maxHeartbeats 4000000 in
set_option maxRecDepth 100000 in
theorem less_any (hr : RowF w g l tl) (i j : Nat) (hi : i < l.length) (hj : j < l.length) (c : Nat) (hl : l.length ≤ 140737488355328) :
    Calls Try.prog 55 #[.slice (some ⟨g, 0, none⟩) l.length c, .int .i64 i, .int .i64 j] w fun e w' => e = .returned (.bool (lt (at_ l i) (at_ l j))) ∧ Below w.heap.size w w' := by
  obtain ⟨n, hn⟩ : ∃ n, l.length = n := ⟨_, rfl⟩
  obtain ⟨ci, hci⟩ : ∃ x, (at_ l i).1 = x := ⟨_, rfl⟩
  obtain ⟨ki, hki⟩ : ∃ x, (at_ l i).2 = x := ⟨_, rfl⟩
  obtain ⟨cj, hcj⟩ : ∃ x, (at_ l j).1 = x := ⟨_, rfl⟩
  obtain ⟨kj, hkj⟩ : ∃ x, (at_ l j).2 = x := ⟨_, rfl⟩
  have x1 := hr.cell hi
  have x2 := hr.cell hj
  rw [hci, hki] at x1
  rw [hcj, hkj] at x2
  have CI := Aside0.mk x1.1
  have KI := Aside0.mk x1.2
  have CJ := Aside0.mk x2.1
  have KJ := Aside0.mk x2.2
  have hlt : lt (at_ l i) (at_ l j) = decide (ci < cj ∨ ci = cj ∧ ki < kj) := by unfold lt; rw [hci, hki, hcj, hkj]
  rw [hlt]
  rw [hn] at hi hj hl ⊢
  have p0 : ((0 : Int) ≤ (i : Int)) = True := eq_true (by omega)
  have p1 : ((i : Int) < (n : Int)) = True := eq_true (by omega)
  have p2 : ((0 : Int) ≤ (j : Int)) = True := eq_true (by omega)
  have p3 : ((j : Int) < (n : Int)) = True := eq_true (by omega)
  have ti : ((i : Int)).toNat = i := Int.toNat_natCast i
  have tj : ((j : Int)).toNat = j := Int.toNat_natCast j
  clear hn hci hki hcj hkj x1 x2 hr hlt hi hj hl
  by_cases h1 : ci < cj
  · have hb1 : decide (ci < cj) = true := decide_eq_true h1
    have e : decide (ci < cj ∨ ci = cj ∧ ki < kj) = true := decide_eq_true (.inl h1)
    rw [e]
    clear h1 e
    go_enter Try.func55, Try.ntmps55
    go_upto_region 1 with (fail)
    have HB := Aside0.mk ((Below.refl w.heap.size w).drew)
    have CI := Aside0.mk (show w.drew.cell? ⟨g, i * 2, none⟩ = some (.int .i64 ci) from CI.out)
    have KI := Aside0.mk (show w.drew.cell? ⟨g, i * 2 + 1, none⟩ = some (.int .i64 ki) from KI.out)
    have CJ := Aside0.mk (show w.drew.cell? ⟨g, j * 2, none⟩ = some (.int .i64 cj) from CJ.out)
    have KJ := Aside0.mk (show w.drew.cell? ⟨g, j * 2 + 1, none⟩ = some (.int .i64 kj) from KJ.out)
    refine start_ (n := 38) (S := fun w' => w'.cell? ⟨g, i * 2, none⟩ = some (.int .i64 ci) ∧ w'.cell? ⟨g, i * 2 + 1, none⟩ = some (.int .i64 ki) ∧ w'.cell? ⟨g, j * 2, none⟩ = some (.int .i64 cj) ∧ w'.cell? ⟨g, j * 2 + 1, none⟩ = some (.int .i64 kj)) (ds := []) (ab 38 0) (by kernel_rfl) rfl rfl ⟨CI.out, KI.out, CJ.out, KJ.out⟩ (fun hHeld => ?_)
    generalize w.drew = wd at HB CI KI CJ KJ hHeld ⊢
    refine pure_ (i := 0) (N := some 7) (v := ?_) (a' := ?_) (ab 38 1) rfl rfl (by kernel_rfl) (fun _ _ _ h => h) (Or.inl ⟨by rfl, ?_⟩) ?_ ?_
    rotate_left
    · intro w'
      go_simp
      with_reducible rfl
    rotate_left
    · simp only [Act.put, zq1, zq2, zq3, i64_w, i32_w]
      rfl
    refine pure_ (i := 1) (N := some 8) (v := ?_) (a' := ?_) (ab 38 3) rfl rfl (by kernel_rfl) (fun _ _ _ h => h) (Or.inl ⟨by rfl, ?_⟩) ?_ ?_
    rotate_left
    · intro w'
      go_simp
      with_reducible rfl
    rotate_left
    · simp only [Act.put, zq1, zq2, zq3, i64_w, i32_w]
      rfl
    refine pure_ (i := 2) (N := some 9) (v := ?_) (a' := ?_) (ab 38 7) rfl rfl (by kernel_rfl) (fun _ _ _ h => h) (Or.inl ⟨by rfl, ?_⟩) ?_ ?_
    rotate_left
    · intro w'
      go_simp
      with_reducible rfl
    rotate_left
    · simp only [Act.put, zq1, zq2, zq3, i64_w, i32_w]
      rfl
    refine pure_ (i := 3) (N := some 10) (v := ?_) (a' := ?_) (ab 38 15) rfl rfl (by kernel_rfl) (fun _ _ _ h => h) (Or.inl ⟨by rfl, ?_⟩) ?_ ?_
    rotate_left
    · intro w'
      go_simp
      with_reducible rfl
    rotate_left
    · simp only [Act.put, zq1, zq2, zq3, i64_w, i32_w]
      rfl
    refine pure_ (i := 5) (N := some 12) (v := ?_) (a' := ?_) (ab 38 47) rfl rfl (by kernel_rfl) (fun _ _ _ h => h) (Or.inl ⟨by rfl, ?_⟩) ?_ ?_
    rotate_left
    · intro w'
      go_simp
      with_reducible rfl
    rotate_left
    · simp only [Act.put, zq1, zq2, zq3, i64_w, i32_w]
      rfl
    refine pure_ (i := 6) (N := some 13) (v := ?_) (a' := ?_) (ab 38 111) rfl rfl (by kernel_rfl) (fun _ _ _ h => h) (Or.inl ⟨by rfl, ?_⟩) ?_ ?_
    rotate_left
    · intro w'
      go_simp
      with_reducible rfl
    rotate_left
    · simp only [Act.put, zq1, zq2, zq3, i64_w, i32_w]
      rfl
    refine pure_ (i := 7) (N := some 14) (v := ?_) (a' := ?_) (ab 38 239) rfl rfl (by kernel_rfl) (fun _ _ _ h => h) (Or.inl ⟨by rfl, ?_⟩) ?_ ?_
    rotate_left
    · intro w'
      go_simp
      with_reducible rfl
    rotate_left
    · simp only [Act.put, zq1, zq2, zq3, i64_w, i32_w]
      rfl
    refine pure_ (i := 8) (N := some 15) (v := ?_) (a' := ?_) (ab 38 495) rfl rfl (by kernel_rfl) (fun _ _ _ h => h) (Or.inl ⟨by rfl, ?_⟩) ?_ ?_
    rotate_left
    · intro w'
      go_simp
      with_reducible rfl
    rotate_left
    · simp only [Act.put, zq1, zq2, zq3, i64_w, i32_w]
      rfl
    refine take_ (i := 4) (N := some 11) (v := ?_) (a' := ?_) (ab 38 511) rfl rfl (by kernel_rfl) (fun _ _ _ h => h) (Or.inl ⟨by rfl, ?_⟩) hHeld ?_ ?_
    rotate_left
    · rintro w' ⟨s0, s1, s2, s3⟩
      go_simp
      with_reducible rfl
    rotate_left
    · simp only [Act.put, zq1, zq2, zq3, i64_w, i32_w]
      rfl
    refine take_ (i := 9) (N := some 16) (v := ?_) (a' := ?_) (ab 38 1023) rfl rfl (by kernel_rfl) (fun _ _ _ h => h) (Or.inl ⟨by rfl, ?_⟩) hHeld ?_ ?_
    rotate_left
    · rintro w' ⟨s0, s1, s2, s3⟩
      go_simp
      with_reducible rfl
    rotate_left
    · simp only [Act.put, zq1, zq2, zq3, i64_w, i32_w]
      rfl
    refine pure_ (i := 10) (N := some 17) (v := ?_) (a' := ?_) (ab 38 2047) rfl rfl (by kernel_rfl) (fun _ _ _ h => h) (Or.inl ⟨by rfl, ?_⟩) ?_ ?_
    rotate_left
    · intro w'
      go_simp
      with_reducible rfl
    rotate_left
    · simp only [Act.put, zq1, zq2, zq3, i64_w, i32_w]
      rfl
    refine pure_ (i := 11) (N := some 18) (v := ?_) (a' := ?_) (ab 38 4095) rfl rfl (by kernel_rfl) (fun _ _ _ h => h) (Or.inl ⟨by rfl, ?_⟩) ?_ ?_
    rotate_left
    · intro w'
      go_simp
      with_reducible rfl
    rotate_left
    · simp only [Act.put, zq1, zq2, zq3, i64_w, i32_w]
      rfl
    refine pure_ (i := 12) (N := some 19) (v := undef) (a' := ?_) (ab 38 8191) rfl rfl (by kernel_rfl) (fun _ _ _ h => h) (Or.inr ⟨by rfl, rfl⟩) ?_ ?_
    rotate_left
    · simp only [Act.put, zq1, zq2, zq3, i64_w, i32_w]
      rfl
    refine pure_ (i := 13) (N := some 20) (v := undef) (a' := ?_) (ab 38 16383) rfl rfl (by kernel_rfl) (fun _ _ _ h => h) (Or.inr ⟨by rfl, rfl⟩) ?_ ?_
    rotate_left
    · simp only [Act.put, zq1, zq2, zq3, i64_w, i32_w]
      rfl
    refine pure_ (i := 14) (N := some 21) (v := undef) (a' := ?_) (ab 38 32767) rfl rfl (by kernel_rfl) (fun _ _ _ h => h) (Or.inr ⟨by rfl, rfl⟩) ?_ ?_
    rotate_left
    · simp only [Act.put, zq1, zq2, zq3, i64_w, i32_w]
      rfl
    refine pure_ (i := 15) (N := some 22) (v := undef) (a' := ?_) (ab 38 65535) rfl rfl (by kernel_rfl) (fun _ _ _ h => h) (Or.inr ⟨by rfl, rfl⟩) ?_ ?_
    rotate_left
    · simp only [Act.put, zq1, zq2, zq3, i64_w, i32_w]
      rfl
    refine pure_ (i := 16) (N := some 23) (v := undef) (a' := ?_) (ab 38 131071) rfl rfl (by kernel_rfl) (fun _ _ _ h => h) (Or.inr ⟨by rfl, rfl⟩) ?_ ?_
    rotate_left
    · simp only [Act.put, zq1, zq2, zq3, i64_w, i32_w]
      rfl
    refine pure_ (i := 17) (N := some 24) (v := undef) (a' := ?_) (ab 38 262143) rfl rfl (by kernel_rfl) (fun _ _ _ h => h) (Or.inr ⟨by rfl, rfl⟩) ?_ ?_
    rotate_left
    · simp only [Act.put, zq1, zq2, zq3, i64_w, i32_w]
      rfl
    refine pure_ (i := 18) (N := some 25) (v := undef) (a' := ?_) (ab 38 524287) rfl rfl (by kernel_rfl) (fun _ _ _ h => h) (Or.inr ⟨by rfl, rfl⟩) ?_ ?_
    rotate_left
    · simp only [Act.put, zq1, zq2, zq3, i64_w, i32_w]
      rfl
    refine pure_ (i := 19) (N := some 26) (v := undef) (a' := ?_) (ab 38 1048575) rfl rfl (by kernel_rfl) (fun _ _ _ h => h) (Or.inr ⟨by rfl, rfl⟩) ?_ ?_
    rotate_left
    · simp only [Act.put, zq1, zq2, zq3, i64_w, i32_w]
      rfl
    refine pure_ (i := 20) (N := some 27) (v := undef) (a' := ?_) (ab 38 2097151) rfl rfl (by kernel_rfl) (fun _ _ _ h => h) (Or.inr ⟨by rfl, rfl⟩) ?_ ?_
    rotate_left
    · simp only [Act.put, zq1, zq2, zq3, i64_w, i32_w]
      rfl
    refine pure_ (i := 21) (N := some 28) (v := undef) (a' := ?_) (ab 38 4194303) rfl rfl (by kernel_rfl) (fun _ _ _ h => h) (Or.inr ⟨by rfl, rfl⟩) ?_ ?_
    rotate_left
    · simp only [Act.put, zq1, zq2, zq3, i64_w, i32_w]
      rfl
    refine pure_ (i := 22) (N := some 29) (v := undef) (a' := ?_) (ab 38 8388607) rfl rfl (by kernel_rfl) (fun _ _ _ h => h) (Or.inr ⟨by rfl, rfl⟩) ?_ ?_
    rotate_left
    · simp only [Act.put, zq1, zq2, zq3, i64_w, i32_w]
      rfl
    refine pure_ (i := 23) (N := some 30) (v := undef) (a' := ?_) (ab 38 16777215) rfl rfl (by kernel_rfl) (fun _ _ _ h => h) (Or.inr ⟨by rfl, rfl⟩) ?_ ?_
    rotate_left
    · simp only [Act.put, zq1, zq2, zq3, i64_w, i32_w]
      rfl
    refine pure_ (i := 24) (N := some 31) (v := undef) (a' := ?_) (ab 38 33554431) rfl rfl (by kernel_rfl) (fun _ _ _ h => h) (Or.inr ⟨by rfl, rfl⟩) ?_ ?_
    rotate_left
    · simp only [Act.put, zq1, zq2, zq3, i64_w, i32_w]
      rfl
    refine pure_ (i := 25) (N := some 32) (v := undef) (a' := ?_) (ab 38 67108863) rfl rfl (by kernel_rfl) (fun _ _ _ h => h) (Or.inr ⟨by rfl, rfl⟩) ?_ ?_
    rotate_left
    · simp only [Act.put, zq1, zq2, zq3, i64_w, i32_w]
      rfl
    refine pure_ (i := 26) (N := some 33) (v := undef) (a' := ?_) (ab 38 134217727) rfl rfl (by kernel_rfl) (fun _ _ _ h => h) (Or.inr ⟨by rfl, rfl⟩) ?_ ?_
    rotate_left
    · simp only [Act.put, zq1, zq2, zq3, i64_w, i32_w]
      rfl
    refine pure_ (i := 27) (N := some 34) (v := undef) (a' := ?_) (ab 38 268435455) rfl rfl (by kernel_rfl) (fun _ _ _ h => h) (Or.inr ⟨by rfl, rfl⟩) ?_ ?_
    rotate_left
    · simp only [Act.put, zq1, zq2, zq3, i64_w, i32_w]
      rfl
    refine pure_ (i := 28) (N := some 35) (v := undef) (a' := ?_) (ab 38 536870911) rfl rfl (by kernel_rfl) (fun _ _ _ h => h) (Or.inr ⟨by rfl, rfl⟩) ?_ ?_
    rotate_left
    · simp only [Act.put, zq1, zq2, zq3, i64_w, i32_w]
      rfl
    refine pure_ (i := 29) (N := some 36) (v := undef) (a' := ?_) (ab 38 1073741823) rfl rfl (by kernel_rfl) (fun _ _ _ h => h) (Or.inr ⟨by rfl, rfl⟩) ?_ ?_
    rotate_left
    · simp only [Act.put, zq1, zq2, zq3, i64_w, i32_w]
      rfl
    refine pure_ (i := 30) (N := some 37) (v := undef) (a' := ?_) (ab 38 2147483647) rfl rfl (by kernel_rfl) (fun _ _ _ h => h) (Or.inr ⟨by rfl, rfl⟩) ?_ ?_
    rotate_left
    · simp only [Act.put, zq1, zq2, zq3, i64_w, i32_w]
      rfl
    refine pure_ (i := 31) (N := some 38) (v := undef) (a' := ?_) (ab 38 4294967295) rfl rfl (by kernel_rfl) (fun _ _ _ h => h) (Or.inr ⟨by rfl, rfl⟩) ?_ ?_
    rotate_left
    · simp only [Act.put, zq1, zq2, zq3, i64_w, i32_w]
      rfl
    refine pure_ (i := 32) (N := some 39) (v := undef) (a' := ?_) (ab 38 8589934591) rfl rfl (by kernel_rfl) (fun _ _ _ h => h) (Or.inr ⟨by rfl, rfl⟩) ?_ ?_
    rotate_left
    · simp only [Act.put, zq1, zq2, zq3, i64_w, i32_w]
      rfl
    refine pure_ (i := 33) (N := some 40) (v := undef) (a' := ?_) (ab 38 17179869183) rfl rfl (by kernel_rfl) (fun _ _ _ h => h) (Or.inr ⟨by rfl, rfl⟩) ?_ ?_
    rotate_left
    · simp only [Act.put, zq1, zq2, zq3, i64_w, i32_w]
      rfl
    refine pure_ (i := 34) (N := some 41) (v := undef) (a' := ?_) (ab 38 34359738367) rfl rfl (by kernel_rfl) (fun _ _ _ h => h) (Or.inr ⟨by rfl, rfl⟩) ?_ ?_
    rotate_left
    · simp only [Act.put, zq1, zq2, zq3, i64_w, i32_w]
      rfl
    refine pure_ (i := 35) (N := some 42) (v := undef) (a' := ?_) (ab 38 68719476735) rfl rfl (by kernel_rfl) (fun _ _ _ h => h) (Or.inr ⟨by rfl, rfl⟩) ?_ ?_
    rotate_left
    · simp only [Act.put, zq1, zq2, zq3, i64_w, i32_w]
      rfl
    refine pure_ (i := 36) (N := some 43) (v := ?_) (a' := ?_) (ab 38 137438953471) rfl rfl (by kernel_rfl) (fun _ _ _ h => h) (Or.inl ⟨by rfl, ?_⟩) ?_ ?_
    rotate_left
    · intro w'
      go_simp
      with_reducible rfl
    rotate_left
    · simp only [Act.put, zq1, zq2, zq3, i64_w, i32_w]
      rfl
    refine pure_ (i := 37) (N := some 6) (v := ?_) (a' := ?_) (ab 38 274877906943) rfl rfl (by kernel_rfl) (fun _ _ _ h => h) (Or.inl ⟨by rfl, ?_⟩) ?_ ?_
    rotate_left
    · intro w'
      go_simp
      with_reducible rfl
    rotate_left
    · simp only [Act.put, zq1, zq2, zq3, i64_w, i32_w]
      rfl
    refine done_ (by kernel_rfl) ?_

    go_wp2
    go_ret
    exact ⟨by simp, HB.out⟩
  · have hb1 : decide (ci < cj) = false := decide_eq_false h1
    by_cases h2 : ci = cj
    · have hb2 : (ci == cj) = true := beq_iff_eq.mpr h2
      by_cases h3 : ki < kj
      · have hb3 : decide (ki < kj) = true := decide_eq_true h3
        have e : decide (ci < cj ∨ ci = cj ∧ ki < kj) = true := decide_eq_true (.inr ⟨h2, h3⟩)
        rw [e]
        clear h1 h2 h3 e
        go_enter Try.func55, Try.ntmps55
        go_upto_region 1 with (fail)
        have HB := Aside0.mk ((Below.refl w.heap.size w).drew)
        have CI := Aside0.mk (show w.drew.cell? ⟨g, i * 2, none⟩ = some (.int .i64 ci) from CI.out)
        have KI := Aside0.mk (show w.drew.cell? ⟨g, i * 2 + 1, none⟩ = some (.int .i64 ki) from KI.out)
        have CJ := Aside0.mk (show w.drew.cell? ⟨g, j * 2, none⟩ = some (.int .i64 cj) from CJ.out)
        have KJ := Aside0.mk (show w.drew.cell? ⟨g, j * 2 + 1, none⟩ = some (.int .i64 kj) from KJ.out)
        refine start_ (n := 38) (S := fun w' => w'.cell? ⟨g, i * 2, none⟩ = some (.int .i64 ci) ∧ w'.cell? ⟨g, i * 2 + 1, none⟩ = some (.int .i64 ki) ∧ w'.cell? ⟨g, j * 2, none⟩ = some (.int .i64 cj) ∧ w'.cell? ⟨g, j * 2 + 1, none⟩ = some (.int .i64 kj)) (ds := []) (ab 38 0) (by kernel_rfl) rfl rfl ⟨CI.out, KI.out, CJ.out, KJ.out⟩ (fun hHeld => ?_)
        generalize w.drew = wd at HB CI KI CJ KJ hHeld ⊢
        refine pure_ (i := 0) (N := some 7) (v := ?_) (a' := ?_) (ab 38 1) rfl rfl (by kernel_rfl) (fun _ _ _ h => h) (Or.inl ⟨by rfl, ?_⟩) ?_ ?_
        rotate_left
        · intro w'
          go_simp
          with_reducible rfl
        rotate_left
        · simp only [Act.put, zq1, zq2, zq3, i64_w, i32_w]
          rfl
        refine pure_ (i := 1) (N := some 8) (v := ?_) (a' := ?_) (ab 38 3) rfl rfl (by kernel_rfl) (fun _ _ _ h => h) (Or.inl ⟨by rfl, ?_⟩) ?_ ?_
        rotate_left
        · intro w'
          go_simp
          with_reducible rfl
        rotate_left
        · simp only [Act.put, zq1, zq2, zq3, i64_w, i32_w]
          rfl
        refine pure_ (i := 2) (N := some 9) (v := ?_) (a' := ?_) (ab 38 7) rfl rfl (by kernel_rfl) (fun _ _ _ h => h) (Or.inl ⟨by rfl, ?_⟩) ?_ ?_
        rotate_left
        · intro w'
          go_simp
          with_reducible rfl
        rotate_left
        · simp only [Act.put, zq1, zq2, zq3, i64_w, i32_w]
          rfl
        refine pure_ (i := 3) (N := some 10) (v := ?_) (a' := ?_) (ab 38 15) rfl rfl (by kernel_rfl) (fun _ _ _ h => h) (Or.inl ⟨by rfl, ?_⟩) ?_ ?_
        rotate_left
        · intro w'
          go_simp
          with_reducible rfl
        rotate_left
        · simp only [Act.put, zq1, zq2, zq3, i64_w, i32_w]
          rfl
        refine pure_ (i := 5) (N := some 12) (v := ?_) (a' := ?_) (ab 38 47) rfl rfl (by kernel_rfl) (fun _ _ _ h => h) (Or.inl ⟨by rfl, ?_⟩) ?_ ?_
        rotate_left
        · intro w'
          go_simp
          with_reducible rfl
        rotate_left
        · simp only [Act.put, zq1, zq2, zq3, i64_w, i32_w]
          rfl
        refine pure_ (i := 6) (N := some 13) (v := ?_) (a' := ?_) (ab 38 111) rfl rfl (by kernel_rfl) (fun _ _ _ h => h) (Or.inl ⟨by rfl, ?_⟩) ?_ ?_
        rotate_left
        · intro w'
          go_simp
          with_reducible rfl
        rotate_left
        · simp only [Act.put, zq1, zq2, zq3, i64_w, i32_w]
          rfl
        refine pure_ (i := 7) (N := some 14) (v := ?_) (a' := ?_) (ab 38 239) rfl rfl (by kernel_rfl) (fun _ _ _ h => h) (Or.inl ⟨by rfl, ?_⟩) ?_ ?_
        rotate_left
        · intro w'
          go_simp
          with_reducible rfl
        rotate_left
        · simp only [Act.put, zq1, zq2, zq3, i64_w, i32_w]
          rfl
        refine pure_ (i := 8) (N := some 15) (v := ?_) (a' := ?_) (ab 38 495) rfl rfl (by kernel_rfl) (fun _ _ _ h => h) (Or.inl ⟨by rfl, ?_⟩) ?_ ?_
        rotate_left
        · intro w'
          go_simp
          with_reducible rfl
        rotate_left
        · simp only [Act.put, zq1, zq2, zq3, i64_w, i32_w]
          rfl
        refine take_ (i := 4) (N := some 11) (v := ?_) (a' := ?_) (ab 38 511) rfl rfl (by kernel_rfl) (fun _ _ _ h => h) (Or.inl ⟨by rfl, ?_⟩) hHeld ?_ ?_
        rotate_left
        · rintro w' ⟨s0, s1, s2, s3⟩
          go_simp
          with_reducible rfl
        rotate_left
        · simp only [Act.put, zq1, zq2, zq3, i64_w, i32_w]
          rfl
        refine take_ (i := 9) (N := some 16) (v := ?_) (a' := ?_) (ab 38 1023) rfl rfl (by kernel_rfl) (fun _ _ _ h => h) (Or.inl ⟨by rfl, ?_⟩) hHeld ?_ ?_
        rotate_left
        · rintro w' ⟨s0, s1, s2, s3⟩
          go_simp
          with_reducible rfl
        rotate_left
        · simp only [Act.put, zq1, zq2, zq3, i64_w, i32_w]
          rfl
        refine pure_ (i := 10) (N := some 17) (v := ?_) (a' := ?_) (ab 38 2047) rfl rfl (by kernel_rfl) (fun _ _ _ h => h) (Or.inl ⟨by rfl, ?_⟩) ?_ ?_
        rotate_left
        · intro w'
          go_simp
          with_reducible rfl
        rotate_left
        · simp only [Act.put, zq1, zq2, zq3, i64_w, i32_w]
          rfl
        refine pure_ (i := 11) (N := some 18) (v := ?_) (a' := ?_) (ab 38 4095) rfl rfl (by kernel_rfl) (fun _ _ _ h => h) (Or.inl ⟨by rfl, ?_⟩) ?_ ?_
        rotate_left
        · intro w'
          go_simp
          with_reducible rfl
        rotate_left
        · simp only [Act.put, zq1, zq2, zq3, i64_w, i32_w]
          rfl
        refine pure_ (i := 12) (N := some 19) (v := ?_) (a' := ?_) (ab 38 8191) rfl rfl (by kernel_rfl) (fun _ _ _ h => h) (Or.inl ⟨by rfl, ?_⟩) ?_ ?_
        rotate_left
        · intro w'
          go_simp
          with_reducible rfl
        rotate_left
        · simp only [Act.put, zq1, zq2, zq3, i64_w, i32_w]
          rfl
        refine pure_ (i := 13) (N := some 20) (v := ?_) (a' := ?_) (ab 38 16383) rfl rfl (by kernel_rfl) (fun _ _ _ h => h) (Or.inl ⟨by rfl, ?_⟩) ?_ ?_
        rotate_left
        · intro w'
          go_simp
          with_reducible rfl
        rotate_left
        · simp only [Act.put, zq1, zq2, zq3, i64_w, i32_w]
          rfl
        refine pure_ (i := 14) (N := some 21) (v := ?_) (a' := ?_) (ab 38 32767) rfl rfl (by kernel_rfl) (fun _ _ _ h => h) (Or.inl ⟨by rfl, ?_⟩) ?_ ?_
        rotate_left
        · intro w'
          go_simp
          with_reducible rfl
        rotate_left
        · simp only [Act.put, zq1, zq2, zq3, i64_w, i32_w]
          rfl
        refine pure_ (i := 15) (N := some 22) (v := ?_) (a' := ?_) (ab 38 65535) rfl rfl (by kernel_rfl) (fun _ _ _ h => h) (Or.inl ⟨by rfl, ?_⟩) ?_ ?_
        rotate_left
        · intro w'
          go_simp
          with_reducible rfl
        rotate_left
        · simp only [Act.put, zq1, zq2, zq3, i64_w, i32_w]
          rfl
        refine pure_ (i := 17) (N := some 24) (v := ?_) (a' := ?_) (ab 38 196607) rfl rfl (by kernel_rfl) (fun _ _ _ h => h) (Or.inl ⟨by rfl, ?_⟩) ?_ ?_
        rotate_left
        · intro w'
          go_simp
          with_reducible rfl
        rotate_left
        · simp only [Act.put, zq1, zq2, zq3, i64_w, i32_w]
          rfl
        refine pure_ (i := 18) (N := some 25) (v := ?_) (a' := ?_) (ab 38 458751) rfl rfl (by kernel_rfl) (fun _ _ _ h => h) (Or.inl ⟨by rfl, ?_⟩) ?_ ?_
        rotate_left
        · intro w'
          go_simp
          with_reducible rfl
        rotate_left
        · simp only [Act.put, zq1, zq2, zq3, i64_w, i32_w]
          rfl
        refine pure_ (i := 19) (N := some 26) (v := ?_) (a' := ?_) (ab 38 983039) rfl rfl (by kernel_rfl) (fun _ _ _ h => h) (Or.inl ⟨by rfl, ?_⟩) ?_ ?_
        rotate_left
        · intro w'
          go_simp
          with_reducible rfl
        rotate_left
        · simp only [Act.put, zq1, zq2, zq3, i64_w, i32_w]
          rfl
        refine pure_ (i := 20) (N := some 27) (v := ?_) (a' := ?_) (ab 38 2031615) rfl rfl (by kernel_rfl) (fun _ _ _ h => h) (Or.inl ⟨by rfl, ?_⟩) ?_ ?_
        rotate_left
        · intro w'
          go_simp
          with_reducible rfl
        rotate_left
        · simp only [Act.put, zq1, zq2, zq3, i64_w, i32_w]
          rfl
        refine take_ (i := 16) (N := some 23) (v := ?_) (a' := ?_) (ab 38 2097151) rfl rfl (by kernel_rfl) (fun _ _ _ h => h) (Or.inl ⟨by rfl, ?_⟩) hHeld ?_ ?_
        rotate_left
        · rintro w' ⟨s0, s1, s2, s3⟩
          go_simp
          with_reducible rfl
        rotate_left
        · simp only [Act.put, zq1, zq2, zq3, i64_w, i32_w]
          rfl
        refine take_ (i := 21) (N := some 28) (v := ?_) (a' := ?_) (ab 38 4194303) rfl rfl (by kernel_rfl) (fun _ _ _ h => h) (Or.inl ⟨by rfl, ?_⟩) hHeld ?_ ?_
        rotate_left
        · rintro w' ⟨s0, s1, s2, s3⟩
          go_simp
          with_reducible rfl
        rotate_left
        · simp only [Act.put, zq1, zq2, zq3, i64_w, i32_w]
          rfl
        refine pure_ (i := 22) (N := some 29) (v := ?_) (a' := ?_) (ab 38 8388607) rfl rfl (by kernel_rfl) (fun _ _ _ h => h) (Or.inl ⟨by rfl, ?_⟩) ?_ ?_
        rotate_left
        · intro w'
          go_simp
          with_reducible rfl
        rotate_left
        · simp only [Act.put, zq1, zq2, zq3, i64_w, i32_w]
          rfl
        refine pure_ (i := 23) (N := some 30) (v := ?_) (a' := ?_) (ab 38 16777215) rfl rfl (by kernel_rfl) (fun _ _ _ h => h) (Or.inl ⟨by rfl, ?_⟩) ?_ ?_
        rotate_left
        · intro w'
          go_simp
          with_reducible rfl
        rotate_left
        · simp only [Act.put, zq1, zq2, zq3, i64_w, i32_w]
          rfl
        refine pure_ (i := 24) (N := some 31) (v := ?_) (a' := ?_) (ab 38 33554431) rfl rfl (by kernel_rfl) (fun _ _ _ h => h) (Or.inl ⟨by rfl, ?_⟩) ?_ ?_
        rotate_left
        · intro w'
          go_simp
          with_reducible rfl
        rotate_left
        · simp only [Act.put, zq1, zq2, zq3, i64_w, i32_w]
          rfl
        refine pure_ (i := 25) (N := some 32) (v := ?_) (a' := ?_) (ab 38 67108863) rfl rfl (by kernel_rfl) (fun _ _ _ h => h) (Or.inl ⟨by rfl, ?_⟩) ?_ ?_
        rotate_left
        · intro w'
          go_simp
          with_reducible rfl
        rotate_left
        · simp only [Act.put, zq1, zq2, zq3, i64_w, i32_w]
          rfl
        refine pure_ (i := 26) (N := some 33) (v := ?_) (a' := ?_) (ab 38 134217727) rfl rfl (by kernel_rfl) (fun _ _ _ h => h) (Or.inl ⟨by rfl, ?_⟩) ?_ ?_
        rotate_left
        · intro w'
          go_simp
          with_reducible rfl
        rotate_left
        · simp only [Act.put, zq1, zq2, zq3, i64_w, i32_w]
          rfl
        refine pure_ (i := 27) (N := some 34) (v := ?_) (a' := ?_) (ab 38 268435455) rfl rfl (by kernel_rfl) (fun _ _ _ h => h) (Or.inl ⟨by rfl, ?_⟩) ?_ ?_
        rotate_left
        · intro w'
          go_simp
          with_reducible rfl
        rotate_left
        · simp only [Act.put, zq1, zq2, zq3, i64_w, i32_w]
          rfl
        refine pure_ (i := 29) (N := some 36) (v := ?_) (a' := ?_) (ab 38 805306367) rfl rfl (by kernel_rfl) (fun _ _ _ h => h) (Or.inl ⟨by rfl, ?_⟩) ?_ ?_
        rotate_left
        · intro w'
          go_simp
          with_reducible rfl
        rotate_left
        · simp only [Act.put, zq1, zq2, zq3, i64_w, i32_w]
          rfl
        refine pure_ (i := 30) (N := some 37) (v := ?_) (a' := ?_) (ab 38 1879048191) rfl rfl (by kernel_rfl) (fun _ _ _ h => h) (Or.inl ⟨by rfl, ?_⟩) ?_ ?_
        rotate_left
        · intro w'
          go_simp
          with_reducible rfl
        rotate_left
        · simp only [Act.put, zq1, zq2, zq3, i64_w, i32_w]
          rfl
        refine pure_ (i := 31) (N := some 38) (v := ?_) (a' := ?_) (ab 38 4026531839) rfl rfl (by kernel_rfl) (fun _ _ _ h => h) (Or.inl ⟨by rfl, ?_⟩) ?_ ?_
        rotate_left
        · intro w'
          go_simp
          with_reducible rfl
        rotate_left
        · simp only [Act.put, zq1, zq2, zq3, i64_w, i32_w]
          rfl
        refine pure_ (i := 32) (N := some 39) (v := ?_) (a' := ?_) (ab 38 8321499135) rfl rfl (by kernel_rfl) (fun _ _ _ h => h) (Or.inl ⟨by rfl, ?_⟩) ?_ ?_
        rotate_left
        · intro w'
          go_simp
          with_reducible rfl
        rotate_left
        · simp only [Act.put, zq1, zq2, zq3, i64_w, i32_w]
          rfl
        refine take_ (i := 28) (N := some 35) (v := ?_) (a' := ?_) (ab 38 8589934591) rfl rfl (by kernel_rfl) (fun _ _ _ h => h) (Or.inl ⟨by rfl, ?_⟩) hHeld ?_ ?_
        rotate_left
        · rintro w' ⟨s0, s1, s2, s3⟩
          go_simp
          with_reducible rfl
        rotate_left
        · simp only [Act.put, zq1, zq2, zq3, i64_w, i32_w]
          rfl
        refine take_ (i := 33) (N := some 40) (v := ?_) (a' := ?_) (ab 38 17179869183) rfl rfl (by kernel_rfl) (fun _ _ _ h => h) (Or.inl ⟨by rfl, ?_⟩) hHeld ?_ ?_
        rotate_left
        · rintro w' ⟨s0, s1, s2, s3⟩
          go_simp
          with_reducible rfl
        rotate_left
        · simp only [Act.put, zq1, zq2, zq3, i64_w, i32_w]
          rfl
        refine pure_ (i := 34) (N := some 41) (v := ?_) (a' := ?_) (ab 38 34359738367) rfl rfl (by kernel_rfl) (fun _ _ _ h => h) (Or.inl ⟨by rfl, ?_⟩) ?_ ?_
        rotate_left
        · intro w'
          go_simp
          with_reducible rfl
        rotate_left
        · simp only [Act.put, zq1, zq2, zq3, i64_w, i32_w]
          rfl
        refine pure_ (i := 35) (N := some 42) (v := ?_) (a' := ?_) (ab 38 68719476735) rfl rfl (by kernel_rfl) (fun _ _ _ h => h) (Or.inl ⟨by rfl, ?_⟩) ?_ ?_
        rotate_left
        · intro w'
          go_simp
          with_reducible rfl
        rotate_left
        · simp only [Act.put, zq1, zq2, zq3, i64_w, i32_w]
          rfl
        refine pure_ (i := 36) (N := some 43) (v := ?_) (a' := ?_) (ab 38 137438953471) rfl rfl (by kernel_rfl) (fun _ _ _ h => h) (Or.inl ⟨by rfl, ?_⟩) ?_ ?_
        rotate_left
        · intro w'
          go_simp
          with_reducible rfl
        rotate_left
        · simp only [Act.put, zq1, zq2, zq3, i64_w, i32_w]
          rfl
        refine pure_ (i := 37) (N := some 6) (v := ?_) (a' := ?_) (ab 38 274877906943) rfl rfl (by kernel_rfl) (fun _ _ _ h => h) (Or.inl ⟨by rfl, ?_⟩) ?_ ?_
        rotate_left
        · intro w'
          go_simp
          with_reducible rfl
        rotate_left
        · simp only [Act.put, zq1, zq2, zq3, i64_w, i32_w]
          rfl
        refine done_ (by kernel_rfl) ?_

        go_wp2
        go_ret
        exact ⟨by simp, HB.out⟩
      · have hb3 : decide (ki < kj) = false := decide_eq_false h3
        have e : decide (ci < cj ∨ ci = cj ∧ ki < kj) = false := decide_eq_false (by omega)
        rw [e]
        clear h1 h2 h3 e
        go_enter Try.func55, Try.ntmps55
        go_upto_region 1 with (fail)
        have HB := Aside0.mk ((Below.refl w.heap.size w).drew)
        have CI := Aside0.mk (show w.drew.cell? ⟨g, i * 2, none⟩ = some (.int .i64 ci) from CI.out)
        have KI := Aside0.mk (show w.drew.cell? ⟨g, i * 2 + 1, none⟩ = some (.int .i64 ki) from KI.out)
        have CJ := Aside0.mk (show w.drew.cell? ⟨g, j * 2, none⟩ = some (.int .i64 cj) from CJ.out)
        have KJ := Aside0.mk (show w.drew.cell? ⟨g, j * 2 + 1, none⟩ = some (.int .i64 kj) from KJ.out)
        refine start_ (n := 38) (S := fun w' => w'.cell? ⟨g, i * 2, none⟩ = some (.int .i64 ci) ∧ w'.cell? ⟨g, i * 2 + 1, none⟩ = some (.int .i64 ki) ∧ w'.cell? ⟨g, j * 2, none⟩ = some (.int .i64 cj) ∧ w'.cell? ⟨g, j * 2 + 1, none⟩ = some (.int .i64 kj)) (ds := []) (ab 38 0) (by kernel_rfl) rfl rfl ⟨CI.out, KI.out, CJ.out, KJ.out⟩ (fun hHeld => ?_)
        generalize w.drew = wd at HB CI KI CJ KJ hHeld ⊢
        refine pure_ (i := 0) (N := some 7) (v := ?_) (a' := ?_) (ab 38 1) rfl rfl (by kernel_rfl) (fun _ _ _ h => h) (Or.inl ⟨by rfl, ?_⟩) ?_ ?_
        rotate_left
        · intro w'
          go_simp
          with_reducible rfl
        rotate_left
        · simp only [Act.put, zq1, zq2, zq3, i64_w, i32_w]
          rfl
        refine pure_ (i := 1) (N := some 8) (v := ?_) (a' := ?_) (ab 38 3) rfl rfl (by kernel_rfl) (fun _ _ _ h => h) (Or.inl ⟨by rfl, ?_⟩) ?_ ?_
        rotate_left
        · intro w'
          go_simp
          with_reducible rfl
        rotate_left
        · simp only [Act.put, zq1, zq2, zq3, i64_w, i32_w]
          rfl
        refine pure_ (i := 2) (N := some 9) (v := ?_) (a' := ?_) (ab 38 7) rfl rfl (by kernel_rfl) (fun _ _ _ h => h) (Or.inl ⟨by rfl, ?_⟩) ?_ ?_
        rotate_left
        · intro w'
          go_simp
          with_reducible rfl
        rotate_left
        · simp only [Act.put, zq1, zq2, zq3, i64_w, i32_w]
          rfl
        refine pure_ (i := 3) (N := some 10) (v := ?_) (a' := ?_) (ab 38 15) rfl rfl (by kernel_rfl) (fun _ _ _ h => h) (Or.inl ⟨by rfl, ?_⟩) ?_ ?_
        rotate_left
        · intro w'
          go_simp
          with_reducible rfl
        rotate_left
        · simp only [Act.put, zq1, zq2, zq3, i64_w, i32_w]
          rfl
        refine pure_ (i := 5) (N := some 12) (v := ?_) (a' := ?_) (ab 38 47) rfl rfl (by kernel_rfl) (fun _ _ _ h => h) (Or.inl ⟨by rfl, ?_⟩) ?_ ?_
        rotate_left
        · intro w'
          go_simp
          with_reducible rfl
        rotate_left
        · simp only [Act.put, zq1, zq2, zq3, i64_w, i32_w]
          rfl
        refine pure_ (i := 6) (N := some 13) (v := ?_) (a' := ?_) (ab 38 111) rfl rfl (by kernel_rfl) (fun _ _ _ h => h) (Or.inl ⟨by rfl, ?_⟩) ?_ ?_
        rotate_left
        · intro w'
          go_simp
          with_reducible rfl
        rotate_left
        · simp only [Act.put, zq1, zq2, zq3, i64_w, i32_w]
          rfl
        refine pure_ (i := 7) (N := some 14) (v := ?_) (a' := ?_) (ab 38 239) rfl rfl (by kernel_rfl) (fun _ _ _ h => h) (Or.inl ⟨by rfl, ?_⟩) ?_ ?_
        rotate_left
        · intro w'
          go_simp
          with_reducible rfl
        rotate_left
        · simp only [Act.put, zq1, zq2, zq3, i64_w, i32_w]
          rfl
        refine pure_ (i := 8) (N := some 15) (v := ?_) (a' := ?_) (ab 38 495) rfl rfl (by kernel_rfl) (fun _ _ _ h => h) (Or.inl ⟨by rfl, ?_⟩) ?_ ?_
        rotate_left
        · intro w'
          go_simp
          with_reducible rfl
        rotate_left
        · simp only [Act.put, zq1, zq2, zq3, i64_w, i32_w]
          rfl
        refine take_ (i := 4) (N := some 11) (v := ?_) (a' := ?_) (ab 38 511) rfl rfl (by kernel_rfl) (fun _ _ _ h => h) (Or.inl ⟨by rfl, ?_⟩) hHeld ?_ ?_
        rotate_left
        · rintro w' ⟨s0, s1, s2, s3⟩
          go_simp
          with_reducible rfl
        rotate_left
        · simp only [Act.put, zq1, zq2, zq3, i64_w, i32_w]
          rfl
        refine take_ (i := 9) (N := some 16) (v := ?_) (a' := ?_) (ab 38 1023) rfl rfl (by kernel_rfl) (fun _ _ _ h => h) (Or.inl ⟨by rfl, ?_⟩) hHeld ?_ ?_
        rotate_left
        · rintro w' ⟨s0, s1, s2, s3⟩
          go_simp
          with_reducible rfl
        rotate_left
        · simp only [Act.put, zq1, zq2, zq3, i64_w, i32_w]
          rfl
        refine pure_ (i := 10) (N := some 17) (v := ?_) (a' := ?_) (ab 38 2047) rfl rfl (by kernel_rfl) (fun _ _ _ h => h) (Or.inl ⟨by rfl, ?_⟩) ?_ ?_
        rotate_left
        · intro w'
          go_simp
          with_reducible rfl
        rotate_left
        · simp only [Act.put, zq1, zq2, zq3, i64_w, i32_w]
          rfl
        refine pure_ (i := 11) (N := some 18) (v := ?_) (a' := ?_) (ab 38 4095) rfl rfl (by kernel_rfl) (fun _ _ _ h => h) (Or.inl ⟨by rfl, ?_⟩) ?_ ?_
        rotate_left
        · intro w'
          go_simp
          with_reducible rfl
        rotate_left
        · simp only [Act.put, zq1, zq2, zq3, i64_w, i32_w]
          rfl
        refine pure_ (i := 12) (N := some 19) (v := ?_) (a' := ?_) (ab 38 8191) rfl rfl (by kernel_rfl) (fun _ _ _ h => h) (Or.inl ⟨by rfl, ?_⟩) ?_ ?_
        rotate_left
        · intro w'
          go_simp
          with_reducible rfl
        rotate_left
        · simp only [Act.put, zq1, zq2, zq3, i64_w, i32_w]
          rfl
        refine pure_ (i := 13) (N := some 20) (v := ?_) (a' := ?_) (ab 38 16383) rfl rfl (by kernel_rfl) (fun _ _ _ h => h) (Or.inl ⟨by rfl, ?_⟩) ?_ ?_
        rotate_left
        · intro w'
          go_simp
          with_reducible rfl
        rotate_left
        · simp only [Act.put, zq1, zq2, zq3, i64_w, i32_w]
          rfl
        refine pure_ (i := 14) (N := some 21) (v := ?_) (a' := ?_) (ab 38 32767) rfl rfl (by kernel_rfl) (fun _ _ _ h => h) (Or.inl ⟨by rfl, ?_⟩) ?_ ?_
        rotate_left
        · intro w'
          go_simp
          with_reducible rfl
        rotate_left
        · simp only [Act.put, zq1, zq2, zq3, i64_w, i32_w]
          rfl
        refine pure_ (i := 15) (N := some 22) (v := ?_) (a' := ?_) (ab 38 65535) rfl rfl (by kernel_rfl) (fun _ _ _ h => h) (Or.inl ⟨by rfl, ?_⟩) ?_ ?_
        rotate_left
        · intro w'
          go_simp
          with_reducible rfl
        rotate_left
        · simp only [Act.put, zq1, zq2, zq3, i64_w, i32_w]
          rfl
        refine pure_ (i := 17) (N := some 24) (v := ?_) (a' := ?_) (ab 38 196607) rfl rfl (by kernel_rfl) (fun _ _ _ h => h) (Or.inl ⟨by rfl, ?_⟩) ?_ ?_
        rotate_left
        · intro w'
          go_simp
          with_reducible rfl
        rotate_left
        · simp only [Act.put, zq1, zq2, zq3, i64_w, i32_w]
          rfl
        refine pure_ (i := 18) (N := some 25) (v := ?_) (a' := ?_) (ab 38 458751) rfl rfl (by kernel_rfl) (fun _ _ _ h => h) (Or.inl ⟨by rfl, ?_⟩) ?_ ?_
        rotate_left
        · intro w'
          go_simp
          with_reducible rfl
        rotate_left
        · simp only [Act.put, zq1, zq2, zq3, i64_w, i32_w]
          rfl
        refine pure_ (i := 19) (N := some 26) (v := ?_) (a' := ?_) (ab 38 983039) rfl rfl (by kernel_rfl) (fun _ _ _ h => h) (Or.inl ⟨by rfl, ?_⟩) ?_ ?_
        rotate_left
        · intro w'
          go_simp
          with_reducible rfl
        rotate_left
        · simp only [Act.put, zq1, zq2, zq3, i64_w, i32_w]
          rfl
        refine pure_ (i := 20) (N := some 27) (v := ?_) (a' := ?_) (ab 38 2031615) rfl rfl (by kernel_rfl) (fun _ _ _ h => h) (Or.inl ⟨by rfl, ?_⟩) ?_ ?_
        rotate_left
        · intro w'
          go_simp
          with_reducible rfl
        rotate_left
        · simp only [Act.put, zq1, zq2, zq3, i64_w, i32_w]
          rfl
        refine take_ (i := 16) (N := some 23) (v := ?_) (a' := ?_) (ab 38 2097151) rfl rfl (by kernel_rfl) (fun _ _ _ h => h) (Or.inl ⟨by rfl, ?_⟩) hHeld ?_ ?_
        rotate_left
        · rintro w' ⟨s0, s1, s2, s3⟩
          go_simp
          with_reducible rfl
        rotate_left
        · simp only [Act.put, zq1, zq2, zq3, i64_w, i32_w]
          rfl
        refine take_ (i := 21) (N := some 28) (v := ?_) (a' := ?_) (ab 38 4194303) rfl rfl (by kernel_rfl) (fun _ _ _ h => h) (Or.inl ⟨by rfl, ?_⟩) hHeld ?_ ?_
        rotate_left
        · rintro w' ⟨s0, s1, s2, s3⟩
          go_simp
          with_reducible rfl
        rotate_left
        · simp only [Act.put, zq1, zq2, zq3, i64_w, i32_w]
          rfl
        refine pure_ (i := 22) (N := some 29) (v := ?_) (a' := ?_) (ab 38 8388607) rfl rfl (by kernel_rfl) (fun _ _ _ h => h) (Or.inl ⟨by rfl, ?_⟩) ?_ ?_
        rotate_left
        · intro w'
          go_simp
          with_reducible rfl
        rotate_left
        · simp only [Act.put, zq1, zq2, zq3, i64_w, i32_w]
          rfl
        refine pure_ (i := 23) (N := some 30) (v := ?_) (a' := ?_) (ab 38 16777215) rfl rfl (by kernel_rfl) (fun _ _ _ h => h) (Or.inl ⟨by rfl, ?_⟩) ?_ ?_
        rotate_left
        · intro w'
          go_simp
          with_reducible rfl
        rotate_left
        · simp only [Act.put, zq1, zq2, zq3, i64_w, i32_w]
          rfl
        refine pure_ (i := 24) (N := some 31) (v := ?_) (a' := ?_) (ab 38 33554431) rfl rfl (by kernel_rfl) (fun _ _ _ h => h) (Or.inl ⟨by rfl, ?_⟩) ?_ ?_
        rotate_left
        · intro w'
          go_simp
          with_reducible rfl
        rotate_left
        · simp only [Act.put, zq1, zq2, zq3, i64_w, i32_w]
          rfl
        refine pure_ (i := 25) (N := some 32) (v := ?_) (a' := ?_) (ab 38 67108863) rfl rfl (by kernel_rfl) (fun _ _ _ h => h) (Or.inl ⟨by rfl, ?_⟩) ?_ ?_
        rotate_left
        · intro w'
          go_simp
          with_reducible rfl
        rotate_left
        · simp only [Act.put, zq1, zq2, zq3, i64_w, i32_w]
          rfl
        refine pure_ (i := 26) (N := some 33) (v := ?_) (a' := ?_) (ab 38 134217727) rfl rfl (by kernel_rfl) (fun _ _ _ h => h) (Or.inl ⟨by rfl, ?_⟩) ?_ ?_
        rotate_left
        · intro w'
          go_simp
          with_reducible rfl
        rotate_left
        · simp only [Act.put, zq1, zq2, zq3, i64_w, i32_w]
          rfl
        refine pure_ (i := 27) (N := some 34) (v := ?_) (a' := ?_) (ab 38 268435455) rfl rfl (by kernel_rfl) (fun _ _ _ h => h) (Or.inl ⟨by rfl, ?_⟩) ?_ ?_
        rotate_left
        · intro w'
          go_simp
          with_reducible rfl
        rotate_left
        · simp only [Act.put, zq1, zq2, zq3, i64_w, i32_w]
          rfl
        refine pure_ (i := 29) (N := some 36) (v := ?_) (a' := ?_) (ab 38 805306367) rfl rfl (by kernel_rfl) (fun _ _ _ h => h) (Or.inl ⟨by rfl, ?_⟩) ?_ ?_
        rotate_left
        · intro w'
          go_simp
          with_reducible rfl
        rotate_left
        · simp only [Act.put, zq1, zq2, zq3, i64_w, i32_w]
          rfl
        refine pure_ (i := 30) (N := some 37) (v := ?_) (a' := ?_) (ab 38 1879048191) rfl rfl (by kernel_rfl) (fun _ _ _ h => h) (Or.inl ⟨by rfl, ?_⟩) ?_ ?_
        rotate_left
        · intro w'
          go_simp
          with_reducible rfl
        rotate_left
        · simp only [Act.put, zq1, zq2, zq3, i64_w, i32_w]
          rfl
        refine pure_ (i := 31) (N := some 38) (v := ?_) (a' := ?_) (ab 38 4026531839) rfl rfl (by kernel_rfl) (fun _ _ _ h => h) (Or.inl ⟨by rfl, ?_⟩) ?_ ?_
        rotate_left
        · intro w'
          go_simp
          with_reducible rfl
        rotate_left
        · simp only [Act.put, zq1, zq2, zq3, i64_w, i32_w]
          rfl
        refine pure_ (i := 32) (N := some 39) (v := ?_) (a' := ?_) (ab 38 8321499135) rfl rfl (by kernel_rfl) (fun _ _ _ h => h) (Or.inl ⟨by rfl, ?_⟩) ?_ ?_
        rotate_left
        · intro w'
          go_simp
          with_reducible rfl
        rotate_left
        · simp only [Act.put, zq1, zq2, zq3, i64_w, i32_w]
          rfl
        refine take_ (i := 28) (N := some 35) (v := ?_) (a' := ?_) (ab 38 8589934591) rfl rfl (by kernel_rfl) (fun _ _ _ h => h) (Or.inl ⟨by rfl, ?_⟩) hHeld ?_ ?_
        rotate_left
        · rintro w' ⟨s0, s1, s2, s3⟩
          go_simp
          with_reducible rfl
        rotate_left
        · simp only [Act.put, zq1, zq2, zq3, i64_w, i32_w]
          rfl
        refine take_ (i := 33) (N := some 40) (v := ?_) (a' := ?_) (ab 38 17179869183) rfl rfl (by kernel_rfl) (fun _ _ _ h => h) (Or.inl ⟨by rfl, ?_⟩) hHeld ?_ ?_
        rotate_left
        · rintro w' ⟨s0, s1, s2, s3⟩
          go_simp
          with_reducible rfl
        rotate_left
        · simp only [Act.put, zq1, zq2, zq3, i64_w, i32_w]
          rfl
        refine pure_ (i := 34) (N := some 41) (v := ?_) (a' := ?_) (ab 38 34359738367) rfl rfl (by kernel_rfl) (fun _ _ _ h => h) (Or.inl ⟨by rfl, ?_⟩) ?_ ?_
        rotate_left
        · intro w'
          go_simp
          with_reducible rfl
        rotate_left
        · simp only [Act.put, zq1, zq2, zq3, i64_w, i32_w]
          rfl
        refine pure_ (i := 35) (N := some 42) (v := ?_) (a' := ?_) (ab 38 68719476735) rfl rfl (by kernel_rfl) (fun _ _ _ h => h) (Or.inl ⟨by rfl, ?_⟩) ?_ ?_
        rotate_left
        · intro w'
          go_simp
          with_reducible rfl
        rotate_left
        · simp only [Act.put, zq1, zq2, zq3, i64_w, i32_w]
          rfl
        refine pure_ (i := 36) (N := some 43) (v := ?_) (a' := ?_) (ab 38 137438953471) rfl rfl (by kernel_rfl) (fun _ _ _ h => h) (Or.inl ⟨by rfl, ?_⟩) ?_ ?_
        rotate_left
        · intro w'
          go_simp
          with_reducible rfl
        rotate_left
        · simp only [Act.put, zq1, zq2, zq3, i64_w, i32_w]
          rfl
        refine pure_ (i := 37) (N := some 6) (v := ?_) (a' := ?_) (ab 38 274877906943) rfl rfl (by kernel_rfl) (fun _ _ _ h => h) (Or.inl ⟨by rfl, ?_⟩) ?_ ?_
        rotate_left
        · intro w'
          go_simp
          with_reducible rfl
        rotate_left
        · simp only [Act.put, zq1, zq2, zq3, i64_w, i32_w]
          rfl
        refine done_ (by kernel_rfl) ?_

        go_wp2
        go_ret
        exact ⟨by simp, HB.out⟩
    · have hb2 : (ci == cj) = false := by simpa using h2
      have e : decide (ci < cj ∨ ci = cj ∧ ki < kj) = false := decide_eq_false (by omega)
      rw [e]
      clear h1 h2 e
      go_enter Try.func55, Try.ntmps55
      go_upto_region 1 with (fail)
      have HB := Aside0.mk ((Below.refl w.heap.size w).drew)
      have CI := Aside0.mk (show w.drew.cell? ⟨g, i * 2, none⟩ = some (.int .i64 ci) from CI.out)
      have KI := Aside0.mk (show w.drew.cell? ⟨g, i * 2 + 1, none⟩ = some (.int .i64 ki) from KI.out)
      have CJ := Aside0.mk (show w.drew.cell? ⟨g, j * 2, none⟩ = some (.int .i64 cj) from CJ.out)
      have KJ := Aside0.mk (show w.drew.cell? ⟨g, j * 2 + 1, none⟩ = some (.int .i64 kj) from KJ.out)
      refine start_ (n := 38) (S := fun w' => w'.cell? ⟨g, i * 2, none⟩ = some (.int .i64 ci) ∧ w'.cell? ⟨g, i * 2 + 1, none⟩ = some (.int .i64 ki) ∧ w'.cell? ⟨g, j * 2, none⟩ = some (.int .i64 cj) ∧ w'.cell? ⟨g, j * 2 + 1, none⟩ = some (.int .i64 kj)) (ds := []) (ab 38 0) (by kernel_rfl) rfl rfl ⟨CI.out, KI.out, CJ.out, KJ.out⟩ (fun hHeld => ?_)
      generalize w.drew = wd at HB CI KI CJ KJ hHeld ⊢
      refine pure_ (i := 0) (N := some 7) (v := ?_) (a' := ?_) (ab 38 1) rfl rfl (by kernel_rfl) (fun _ _ _ h => h) (Or.inl ⟨by rfl, ?_⟩) ?_ ?_
      rotate_left
      · intro w'
        go_simp
        with_reducible rfl
      rotate_left
      · simp only [Act.put, zq1, zq2, zq3, i64_w, i32_w]
        rfl
      refine pure_ (i := 1) (N := some 8) (v := ?_) (a' := ?_) (ab 38 3) rfl rfl (by kernel_rfl) (fun _ _ _ h => h) (Or.inl ⟨by rfl, ?_⟩) ?_ ?_
      rotate_left
      · intro w'
        go_simp
        with_reducible rfl
      rotate_left
      · simp only [Act.put, zq1, zq2, zq3, i64_w, i32_w]
        rfl
      refine pure_ (i := 2) (N := some 9) (v := ?_) (a' := ?_) (ab 38 7) rfl rfl (by kernel_rfl) (fun _ _ _ h => h) (Or.inl ⟨by rfl, ?_⟩) ?_ ?_
      rotate_left
      · intro w'
        go_simp
        with_reducible rfl
      rotate_left
      · simp only [Act.put, zq1, zq2, zq3, i64_w, i32_w]
        rfl
      refine pure_ (i := 3) (N := some 10) (v := ?_) (a' := ?_) (ab 38 15) rfl rfl (by kernel_rfl) (fun _ _ _ h => h) (Or.inl ⟨by rfl, ?_⟩) ?_ ?_
      rotate_left
      · intro w'
        go_simp
        with_reducible rfl
      rotate_left
      · simp only [Act.put, zq1, zq2, zq3, i64_w, i32_w]
        rfl
      refine pure_ (i := 5) (N := some 12) (v := ?_) (a' := ?_) (ab 38 47) rfl rfl (by kernel_rfl) (fun _ _ _ h => h) (Or.inl ⟨by rfl, ?_⟩) ?_ ?_
      rotate_left
      · intro w'
        go_simp
        with_reducible rfl
      rotate_left
      · simp only [Act.put, zq1, zq2, zq3, i64_w, i32_w]
        rfl
      refine pure_ (i := 6) (N := some 13) (v := ?_) (a' := ?_) (ab 38 111) rfl rfl (by kernel_rfl) (fun _ _ _ h => h) (Or.inl ⟨by rfl, ?_⟩) ?_ ?_
      rotate_left
      · intro w'
        go_simp
        with_reducible rfl
      rotate_left
      · simp only [Act.put, zq1, zq2, zq3, i64_w, i32_w]
        rfl
      refine pure_ (i := 7) (N := some 14) (v := ?_) (a' := ?_) (ab 38 239) rfl rfl (by kernel_rfl) (fun _ _ _ h => h) (Or.inl ⟨by rfl, ?_⟩) ?_ ?_
      rotate_left
      · intro w'
        go_simp
        with_reducible rfl
      rotate_left
      · simp only [Act.put, zq1, zq2, zq3, i64_w, i32_w]
        rfl
      refine pure_ (i := 8) (N := some 15) (v := ?_) (a' := ?_) (ab 38 495) rfl rfl (by kernel_rfl) (fun _ _ _ h => h) (Or.inl ⟨by rfl, ?_⟩) ?_ ?_
      rotate_left
      · intro w'
        go_simp
        with_reducible rfl
      rotate_left
      · simp only [Act.put, zq1, zq2, zq3, i64_w, i32_w]
        rfl
      refine take_ (i := 4) (N := some 11) (v := ?_) (a' := ?_) (ab 38 511) rfl rfl (by kernel_rfl) (fun _ _ _ h => h) (Or.inl ⟨by rfl, ?_⟩) hHeld ?_ ?_
      rotate_left
      · rintro w' ⟨s0, s1, s2, s3⟩
        go_simp
        with_reducible rfl
      rotate_left
      · simp only [Act.put, zq1, zq2, zq3, i64_w, i32_w]
        rfl
      refine take_ (i := 9) (N := some 16) (v := ?_) (a' := ?_) (ab 38 1023) rfl rfl (by kernel_rfl) (fun _ _ _ h => h) (Or.inl ⟨by rfl, ?_⟩) hHeld ?_ ?_
      rotate_left
      · rintro w' ⟨s0, s1, s2, s3⟩
        go_simp
        with_reducible rfl
      rotate_left
      · simp only [Act.put, zq1, zq2, zq3, i64_w, i32_w]
        rfl
      refine pure_ (i := 10) (N := some 17) (v := ?_) (a' := ?_) (ab 38 2047) rfl rfl (by kernel_rfl) (fun _ _ _ h => h) (Or.inl ⟨by rfl, ?_⟩) ?_ ?_
      rotate_left
      · intro w'
        go_simp
        with_reducible rfl
      rotate_left
      · simp only [Act.put, zq1, zq2, zq3, i64_w, i32_w]
        rfl
      refine pure_ (i := 11) (N := some 18) (v := ?_) (a' := ?_) (ab 38 4095) rfl rfl (by kernel_rfl) (fun _ _ _ h => h) (Or.inl ⟨by rfl, ?_⟩) ?_ ?_
      rotate_left
      · intro w'
        go_simp
        with_reducible rfl
      rotate_left
      · simp only [Act.put, zq1, zq2, zq3, i64_w, i32_w]
        rfl
      refine pure_ (i := 12) (N := some 19) (v := ?_) (a' := ?_) (ab 38 8191) rfl rfl (by kernel_rfl) (fun _ _ _ h => h) (Or.inl ⟨by rfl, ?_⟩) ?_ ?_
      rotate_left
      · intro w'
        go_simp
        with_reducible rfl
      rotate_left
      · simp only [Act.put, zq1, zq2, zq3, i64_w, i32_w]
        rfl
      refine pure_ (i := 13) (N := some 20) (v := ?_) (a' := ?_) (ab 38 16383) rfl rfl (by kernel_rfl) (fun _ _ _ h => h) (Or.inl ⟨by rfl, ?_⟩) ?_ ?_
      rotate_left
      · intro w'
        go_simp
        with_reducible rfl
      rotate_left
      · simp only [Act.put, zq1, zq2, zq3, i64_w, i32_w]
        rfl
      refine pure_ (i := 14) (N := some 21) (v := ?_) (a' := ?_) (ab 38 32767) rfl rfl (by kernel_rfl) (fun _ _ _ h => h) (Or.inl ⟨by rfl, ?_⟩) ?_ ?_
      rotate_left
      · intro w'
        go_simp
        with_reducible rfl
      rotate_left
      · simp only [Act.put, zq1, zq2, zq3, i64_w, i32_w]
        rfl
      refine pure_ (i := 15) (N := some 22) (v := ?_) (a' := ?_) (ab 38 65535) rfl rfl (by kernel_rfl) (fun _ _ _ h => h) (Or.inl ⟨by rfl, ?_⟩) ?_ ?_
      rotate_left
      · intro w'
        go_simp
        with_reducible rfl
      rotate_left
      · simp only [Act.put, zq1, zq2, zq3, i64_w, i32_w]
        rfl
      refine pure_ (i := 17) (N := some 24) (v := ?_) (a' := ?_) (ab 38 196607) rfl rfl (by kernel_rfl) (fun _ _ _ h => h) (Or.inl ⟨by rfl, ?_⟩) ?_ ?_
      rotate_left
      · intro w'
        go_simp
        with_reducible rfl
      rotate_left
      · simp only [Act.put, zq1, zq2, zq3, i64_w, i32_w]
        rfl
      refine pure_ (i := 18) (N := some 25) (v := ?_) (a' := ?_) (ab 38 458751) rfl rfl (by kernel_rfl) (fun _ _ _ h => h) (Or.inl ⟨by rfl, ?_⟩) ?_ ?_
      rotate_left
      · intro w'
        go_simp
        with_reducible rfl
      rotate_left
      · simp only [Act.put, zq1, zq2, zq3, i64_w, i32_w]
        rfl
      refine pure_ (i := 19) (N := some 26) (v := ?_) (a' := ?_) (ab 38 983039) rfl rfl (by kernel_rfl) (fun _ _ _ h => h) (Or.inl ⟨by rfl, ?_⟩) ?_ ?_
      rotate_left
      · intro w'
        go_simp
        with_reducible rfl
      rotate_left
      · simp only [Act.put, zq1, zq2, zq3, i64_w, i32_w]
        rfl
      refine pure_ (i := 20) (N := some 27) (v := ?_) (a' := ?_) (ab 38 2031615) rfl rfl (by kernel_rfl) (fun _ _ _ h => h) (Or.inl ⟨by rfl, ?_⟩) ?_ ?_
      rotate_left
      · intro w'
        go_simp
        with_reducible rfl
      rotate_left
      · simp only [Act.put, zq1, zq2, zq3, i64_w, i32_w]
        rfl
      refine take_ (i := 16) (N := some 23) (v := ?_) (a' := ?_) (ab 38 2097151) rfl rfl (by kernel_rfl) (fun _ _ _ h => h) (Or.inl ⟨by rfl, ?_⟩) hHeld ?_ ?_
      rotate_left
      · rintro w' ⟨s0, s1, s2, s3⟩
        go_simp
        with_reducible rfl
      rotate_left
      · simp only [Act.put, zq1, zq2, zq3, i64_w, i32_w]
        rfl
      refine take_ (i := 21) (N := some 28) (v := ?_) (a' := ?_) (ab 38 4194303) rfl rfl (by kernel_rfl) (fun _ _ _ h => h) (Or.inl ⟨by rfl, ?_⟩) hHeld ?_ ?_
      rotate_left
      · rintro w' ⟨s0, s1, s2, s3⟩
        go_simp
        with_reducible rfl
      rotate_left
      · simp only [Act.put, zq1, zq2, zq3, i64_w, i32_w]
        rfl
      refine pure_ (i := 22) (N := some 29) (v := ?_) (a' := ?_) (ab 38 8388607) rfl rfl (by kernel_rfl) (fun _ _ _ h => h) (Or.inl ⟨by rfl, ?_⟩) ?_ ?_
      rotate_left
      · intro w'
        go_simp
        with_reducible rfl
      rotate_left
      · simp only [Act.put, zq1, zq2, zq3, i64_w, i32_w]
        rfl
      refine pure_ (i := 23) (N := some 30) (v := ?_) (a' := ?_) (ab 38 16777215) rfl rfl (by kernel_rfl) (fun _ _ _ h => h) (Or.inl ⟨by rfl, ?_⟩) ?_ ?_
      rotate_left
      · intro w'
        go_simp
        with_reducible rfl
      rotate_left
      · simp only [Act.put, zq1, zq2, zq3, i64_w, i32_w]
        rfl
      refine pure_ (i := 24) (N := some 31) (v := undef) (a' := ?_) (ab 38 33554431) rfl rfl (by kernel_rfl) (fun _ _ _ h => h) (Or.inr ⟨by rfl, rfl⟩) ?_ ?_
      rotate_left
      · simp only [Act.put, zq1, zq2, zq3, i64_w, i32_w]
        rfl
      refine pure_ (i := 25) (N := some 32) (v := undef) (a' := ?_) (ab 38 67108863) rfl rfl (by kernel_rfl) (fun _ _ _ h => h) (Or.inr ⟨by rfl, rfl⟩) ?_ ?_
      rotate_left
      · simp only [Act.put, zq1, zq2, zq3, i64_w, i32_w]
        rfl
      refine pure_ (i := 26) (N := some 33) (v := undef) (a' := ?_) (ab 38 134217727) rfl rfl (by kernel_rfl) (fun _ _ _ h => h) (Or.inr ⟨by rfl, rfl⟩) ?_ ?_
      rotate_left
      · simp only [Act.put, zq1, zq2, zq3, i64_w, i32_w]
        rfl
      refine pure_ (i := 27) (N := some 34) (v := undef) (a' := ?_) (ab 38 268435455) rfl rfl (by kernel_rfl) (fun _ _ _ h => h) (Or.inr ⟨by rfl, rfl⟩) ?_ ?_
      rotate_left
      · simp only [Act.put, zq1, zq2, zq3, i64_w, i32_w]
        rfl
      refine pure_ (i := 28) (N := some 35) (v := undef) (a' := ?_) (ab 38 536870911) rfl rfl (by kernel_rfl) (fun _ _ _ h => h) (Or.inr ⟨by rfl, rfl⟩) ?_ ?_
      rotate_left
      · simp only [Act.put, zq1, zq2, zq3, i64_w, i32_w]
        rfl
      refine pure_ (i := 29) (N := some 36) (v := undef) (a' := ?_) (ab 38 1073741823) rfl rfl (by kernel_rfl) (fun _ _ _ h => h) (Or.inr ⟨by rfl, rfl⟩) ?_ ?_
      rotate_left
      · simp only [Act.put, zq1, zq2, zq3, i64_w, i32_w]
        rfl
      refine pure_ (i := 30) (N := some 37) (v := undef) (a' := ?_) (ab 38 2147483647) rfl rfl (by kernel_rfl) (fun _ _ _ h => h) (Or.inr ⟨by rfl, rfl⟩) ?_ ?_
      rotate_left
      · simp only [Act.put, zq1, zq2, zq3, i64_w, i32_w]
        rfl
      refine pure_ (i := 31) (N := some 38) (v := undef) (a' := ?_) (ab 38 4294967295) rfl rfl (by kernel_rfl) (fun _ _ _ h => h) (Or.inr ⟨by rfl, rfl⟩) ?_ ?_
      rotate_left
      · simp only [Act.put, zq1, zq2, zq3, i64_w, i32_w]
        rfl
      refine pure_ (i := 32) (N := some 39) (v := undef) (a' := ?_) (ab 38 8589934591) rfl rfl (by kernel_rfl) (fun _ _ _ h => h) (Or.inr ⟨by rfl, rfl⟩) ?_ ?_
      rotate_left
      · simp only [Act.put, zq1, zq2, zq3, i64_w, i32_w]
        rfl
      refine pure_ (i := 33) (N := some 40) (v := undef) (a' := ?_) (ab 38 17179869183) rfl rfl (by kernel_rfl) (fun _ _ _ h => h) (Or.inr ⟨by rfl, rfl⟩) ?_ ?_
      rotate_left
      · simp only [Act.put, zq1, zq2, zq3, i64_w, i32_w]
        rfl
      refine pure_ (i := 34) (N := some 41) (v := undef) (a' := ?_) (ab 38 34359738367) rfl rfl (by kernel_rfl) (fun _ _ _ h => h) (Or.inr ⟨by rfl, rfl⟩) ?_ ?_
      rotate_left
      · simp only [Act.put, zq1, zq2, zq3, i64_w, i32_w]
        rfl
      refine pure_ (i := 35) (N := some 42) (v := ?_) (a' := ?_) (ab 38 68719476735) rfl rfl (by kernel_rfl) (fun _ _ _ h => h) (Or.inl ⟨by rfl, ?_⟩) ?_ ?_
      rotate_left
      · intro w'
        go_simp
        with_reducible rfl
      rotate_left
      · simp only [Act.put, zq1, zq2, zq3, i64_w, i32_w]
        rfl
      refine pure_ (i := 36) (N := some 43) (v := ?_) (a' := ?_) (ab 38 137438953471) rfl rfl (by kernel_rfl) (fun _ _ _ h => h) (Or.inl ⟨by rfl, ?_⟩) ?_ ?_
      rotate_left
      · intro w'
        go_simp
        with_reducible rfl
      rotate_left
      · simp only [Act.put, zq1, zq2, zq3, i64_w, i32_w]
        rfl
      refine pure_ (i := 37) (N := some 6) (v := ?_) (a' := ?_) (ab 38 274877906943) rfl rfl (by kernel_rfl) (fun _ _ _ h => h) (Or.inl ⟨by rfl, ?_⟩) ?_ ?_
      rotate_left
      · intro w'
        go_simp
        with_reducible rfl
      rotate_left
      · simp only [Act.put, zq1, zq2, zq3, i64_w, i32_w]
        rfl
      refine done_ (by kernel_rfl) ?_

      go_wp2
      go_ret
      exact ⟨by simp, HB.out⟩
set_option maxHeartbeats 4000000 in
set_option maxRecDepth 100000 in
theorem swap_any (hr : RowF w g l tl) (i j : Nat) (hi : i < l.length) (hj : j < l.length) (c : Nat) (hl : l.length ≤ 140737488355328) :
    Calls Try.prog 58 #[.slice (some ⟨g, 0, none⟩) l.length c, .int .i64 i, .int .i64 j] w fun e w' => e = .returned (.tuple #[]) ∧ RowF w' g (swap l i j) tl ∧ Kg w g w' := by
  obtain ⟨n, hn⟩ : ∃ n, l.length = n := ⟨_, rfl⟩
  obtain ⟨ci, hci⟩ : ∃ x, (at_ l i).1 = x := ⟨_, rfl⟩
  obtain ⟨ki, hki⟩ : ∃ x, (at_ l i).2 = x := ⟨_, rfl⟩
  obtain ⟨cj, hcj⟩ : ∃ x, (at_ l j).1 = x := ⟨_, rfl⟩
  obtain ⟨kj, hkj⟩ : ∃ x, (at_ l j).2 = x := ⟨_, rfl⟩
  have x1 := hr.cell hi
  have x2 := hr.cell hj
  rw [hci, hki] at x1
  rw [hcj, hkj] at x2
  have CI := Aside0.mk x1.1
  have KI := Aside0.mk x1.2
  have CJ := Aside0.mk x2.1
  have KJ := Aside0.mk x2.2
  have HR := Aside0.mk hr
  have HK := Aside0.mk (Kg.refl w g (blk_lt hr))
  have LI := Aside0.mk hi
  have LJ := Aside0.mk hj
  have HS := Aside0.mk (show swap l i j = (l.set i (cj, kj)).set j (ci, ki) from by unfold swap; rw [← hci, ← hki, ← hcj, ← hkj])
  rw [hn] at hi hj hl ⊢
  have p0 : ((0 : Int) ≤ (i : Int)) = True := eq_true (by omega)
  have p1 : ((i : Int) < (n : Int)) = True := eq_true (by omega)
  have p2 : ((0 : Int) ≤ (j : Int)) = True := eq_true (by omega)
  have p3 : ((j : Int) < (n : Int)) = True := eq_true (by omega)
  have ti : ((i : Int)).toNat = i := Int.toNat_natCast i
  have tj : ((j : Int)).toNat = j := Int.toNat_natCast j
  clear hn hci hki hcj hkj x1 x2 hr hi hj hl
  go_enter Try.func58, Try.ntmps58
  go_upto_region 0 with (fail)
  have HR := Aside0.mk (HR.out.below (Below.refl w.heap.size w).drew)
  have HK := Aside0.mk (HK.out.below (Below.refl w.heap.size w).drew)
  have CI := Aside0.mk (show w.drew.cell? ⟨g, i * 2, none⟩ = some (.int .i64 ci) from CI.out)
  have KI := Aside0.mk (show w.drew.cell? ⟨g, i * 2 + 1, none⟩ = some (.int .i64 ki) from KI.out)
  have CJ := Aside0.mk (show w.drew.cell? ⟨g, j * 2, none⟩ = some (.int .i64 cj) from CJ.out)
  have KJ := Aside0.mk (show w.drew.cell? ⟨g, j * 2 + 1, none⟩ = some (.int .i64 kj) from KJ.out)
  refine start_ (n := 16) (S := fun w' => w'.cell? ⟨g, i * 2, none⟩ = some (.int .i64 ci) ∧ w'.cell? ⟨g, i * 2 + 1, none⟩ = some (.int .i64 ki) ∧ w'.cell? ⟨g, j * 2, none⟩ = some (.int .i64 cj) ∧ w'.cell? ⟨g, j * 2 + 1, none⟩ = some (.int .i64 kj)) (ds := [13, 15]) (ab 16 0) (by kernel_rfl) rfl rfl ⟨CI.out, KI.out, CJ.out, KJ.out⟩ (fun hHeld => ?_)
  generalize w.drew = wd at HR HK CI KI CJ KJ hHeld ⊢
  refine pure_ (i := 0) (N := some 6) (v := ?_) (a' := ?_) (ab 16 1) rfl rfl (by kernel_rfl) (fun _ _ _ h => h) (Or.inl ⟨by rfl, ?_⟩) ?_ ?_
  rotate_left
  · intro w'
    go_simp
    with_reducible rfl
  rotate_left
  · simp only [Act.put, zq1, zq2, zq3, i64_w, i32_w]
    rfl
  refine pure_ (i := 1) (N := some 7) (v := ?_) (a' := ?_) (ab 16 3) rfl rfl (by kernel_rfl) (fun _ _ _ h => h) (Or.inl ⟨by rfl, ?_⟩) ?_ ?_
  rotate_left
  · intro w'
    go_simp
    with_reducible rfl
  rotate_left
  · simp only [Act.put, zq1, zq2, zq3, i64_w, i32_w]
    rfl
  refine pure_ (i := 2) (N := some 8) (v := ?_) (a' := ?_) (ab 16 7) rfl rfl (by kernel_rfl) (fun _ _ _ h => h) (Or.inl ⟨by rfl, ?_⟩) ?_ ?_
  rotate_left
  · intro w'
    go_simp
    with_reducible rfl
  rotate_left
  · simp only [Act.put, zq1, zq2, zq3, i64_w, i32_w]
    rfl
  refine pure_ (i := 3) (N := some 9) (v := ?_) (a' := ?_) (ab 16 15) rfl rfl (by kernel_rfl) (fun _ _ _ h => h) (Or.inl ⟨by rfl, ?_⟩) ?_ ?_
  rotate_left
  · intro w'
    go_simp
    with_reducible rfl
  rotate_left
  · simp only [Act.put, zq1, zq2, zq3, i64_w, i32_w]
    rfl
  refine pure_ (i := 4) (N := some 10) (v := ?_) (a' := ?_) (ab 16 31) rfl rfl (by kernel_rfl) (fun _ _ _ h => h) (Or.inl ⟨by rfl, ?_⟩) ?_ ?_
  rotate_left
  · intro w'
    go_simp
    with_reducible rfl
  rotate_left
  · simp only [Act.put, zq1, zq2, zq3, i64_w, i32_w]
    rfl
  refine pure_ (i := 5) (N := some 11) (v := ?_) (a' := ?_) (ab 16 63) rfl rfl (by kernel_rfl) (fun _ _ _ h => h) (Or.inl ⟨by rfl, ?_⟩) ?_ ?_
  rotate_left
  · intro w'
    go_simp
    with_reducible rfl
  rotate_left
  · simp only [Act.put, zq1, zq2, zq3, i64_w, i32_w]
    rfl
  refine pure_ (i := 6) (N := some 12) (v := ?_) (a' := ?_) (ab 16 127) rfl rfl (by kernel_rfl) (fun _ _ _ h => h) (Or.inl ⟨by rfl, ?_⟩) ?_ ?_
  rotate_left
  · intro w'
    go_simp
    with_reducible rfl
  rotate_left
  · simp only [Act.put, zq1, zq2, zq3, i64_w, i32_w]
    rfl
  refine pure_ (i := 8) (N := some 14) (v := ?_) (a' := ?_) (ab 16 383) rfl rfl (by kernel_rfl) (fun _ _ _ h => h) (Or.inl ⟨by rfl, ?_⟩) ?_ ?_
  rotate_left
  · intro w'
    go_simp
    with_reducible rfl
  rotate_left
  · simp only [Act.put, zq1, zq2, zq3, i64_w, i32_w]
    rfl
  refine pure_ (i := 9) (N := some 15) (v := ?_) (a' := ?_) (ab 16 895) rfl rfl (by kernel_rfl) (fun _ _ _ h => h) (Or.inl ⟨by rfl, ?_⟩) ?_ ?_
  rotate_left
  · intro w'
    go_simp
    with_reducible rfl
  rotate_left
  · simp only [Act.put, zq1, zq2, zq3, i64_w, i32_w]
    rfl
  refine pure_ (i := 10) (N := some 16) (v := ?_) (a' := ?_) (ab 16 1919) rfl rfl (by kernel_rfl) (fun _ _ _ h => h) (Or.inl ⟨by rfl, ?_⟩) ?_ ?_
  rotate_left
  · intro w'
    go_simp
    with_reducible rfl
  rotate_left
  · simp only [Act.put, zq1, zq2, zq3, i64_w, i32_w]
    rfl
  refine take_ (i := 7) (N := some 13) (v := ?_) (a' := ?_) (ab 16 2047) rfl rfl (by kernel_rfl) (fun _ _ _ h => h) (Or.inl ⟨by rfl, ?_⟩) hHeld ?_ ?_
  rotate_left
  · rintro w' ⟨s0, s1, s2, s3⟩
    go_simp
    with_reducible rfl
  rotate_left
  · simp only [Act.put, zq1, zq2, zq3, i64_w, i32_w]
    rfl
  refine take_ (i := 11) (N := some 17) (v := ?_) (a' := ?_) (ab 16 4095) rfl rfl (by kernel_rfl) (fun _ _ _ h => h) (Or.inl ⟨by rfl, ?_⟩) hHeld ?_ ?_
  rotate_left
  · rintro w' ⟨s0, s1, s2, s3⟩
    go_simp
    with_reducible rfl
  rotate_left
  · simp only [Act.put, zq1, zq2, zq3, i64_w, i32_w]
    rfl
  refine pure_ (i := 12) (N := some 18) (v := ?_) (a' := ?_) (ab 16 8191) rfl rfl (by kernel_rfl) (fun _ _ _ h => h) (Or.inl ⟨by rfl, ?_⟩) ?_ ?_
  rotate_left
  · intro w'
    go_simp
    with_reducible rfl
  rotate_left
  · simp only [Act.put, zq1, zq2, zq3, i64_w, i32_w]
    rfl
  refine last_ (i := 13) (N := none) (ab 16 16383) rfl rfl (by kernel_rfl) (by decide) (fun K hK => ?_)
  have cz0 := CI.out
  have cz1 := KI.out
  have fz0 := HR.out.frozen (i * 2)
  have fz1 := HR.out.frozen (i * 2 + 1)
  refine skip_ (w1 := ?_) (by rfl) rfl ?_ ?_
  rotate_left
  · go_simp
    rfl
  refine hK.out _ _ ?_
  clear hK K
  refine pure_ (i := 14) (N := some 19) (v := ?_) (a' := ?_) (ab 16 32767) rfl rfl (by kernel_rfl) (fun _ _ _ h => h) (Or.inl ⟨by rfl, ?_⟩) ?_ ?_
  rotate_left
  · intro w'
    go_simp
    with_reducible rfl
  rotate_left
  · simp only [Act.put, zq1, zq2, zq3, i64_w, i32_w]
    rfl
  refine last_ (i := 15) (N := none) (ab 16 65535) rfl rfl (by kernel_rfl) (by decide) (fun K hK => ?_)
  have HR := Aside0.mk (HR.out.set (i := i) LI.out (cj, kj))
  have HK := Aside0.mk ((HK.out.set (i * 2) (.int .i64 cj)).set (i * 2 + 1) (.int .i64 kj))
  clear cz0 cz1 fz0 fz1 hHeld CI KI CJ KJ
  generalize (wd.setCell ⟨g, i * 2, none⟩ (.int .i64 cj)).setCell ⟨g, i * 2 + 1, none⟩ (.int .i64 kj) = we at HR HK ⊢
  have x2 := HR.out.cell (i := j) (by rw [List.length_set]; exact LJ.out)
  have cz0 := x2.1
  have cz1 := x2.2
  have fz0 := HR.out.frozen (j * 2)
  have fz1 := HR.out.frozen (j * 2 + 1)
  clear x2
  refine skip_ (w1 := ?_) (by rfl) rfl ?_ ?_
  rotate_left
  · go_simp
    rfl
  refine hK.out _ _ ?_
  clear hK K
  refine done_ (by kernel_rfl) ?_

  have HR := Aside0.mk (HR.out.set (i := j) (by rw [List.length_set]; exact LJ.out) (ci, ki))
  have HK := Aside0.mk ((HK.out.set (j * 2) (.int .i64 ci)).set (j * 2 + 1) (.int .i64 ki))
  rw [← HS.out] at HR
  clear cz0 cz1 fz0 fz1
  go_wp2
  go_end0
  exact ⟨rfl, HR.out, HK.out⟩
theorem len_any (A : Option Addr) (n c : Nat) (w : World) : Calls Try.prog 28 #[.slice A n c] w fun e w' => e = .returned (.int .i64 n) ∧ w' = w := by
  go_enter Try.func28, Try.ntmps28
  go_wp2
  go_ret
  exact ⟨rfl, rfl⟩
end
theorem wrap_in {x : Int} (h0 : -9223372036854775808 ≤ x) (h1 : x ≤ 9223372036854775807) : wrap64 x = x := by
  unfold wrap64; omega
@[go_sem] theorem as_far (v : Value) (w : World) : (Instr.typeAssert (.iface 52 v) 20 52 false).run Try.prog w = .ok v w := by
  unfold Instr.typeAssert
  have hu := Try.underlying52
  simp only [Sem.run_bind, run_underlying hu, Result.andThen_ok]
  rfl
theorem row_step {P : Program} {ops : Array Oper} {Q : Exit → Act → World → Prop} {o : Oper} {a : Act} {Kc : Act → World → Prop} {W : World} (hw : Region.wanted o (yielded ops a.tmps) = true) {N : Option Tmp} (hd : o.dst = N) {cs : Array Value} {t : TypeId} {n : Nat}
    (hrun : (execOp a.eval o).run P W = .ok (.value (.slice (some ⟨W.heap.size, 0, none⟩) n n)) (W.alloc (.cells cs t (0, 0))))
    (h : ∀ g, g = W.heap.size → ∀ w1, w1.heap[g]? = some (.cells cs t (0, 0)) → Below W.heap.size W w1 → Kc (a.put N (.slice (some ⟨g, 0, none⟩) n n)) w1) : if Region.wanted o (yielded ops a.tmps) = true then Oper.wp P o a W Kc Q else Kc (a.put N undef) W := by
  subst hd
  rw [if_pos hw]
  unfold Oper.wp
  rw [hrun]
  exact h _ rfl _ (blk_new W _) (below_alloc (Below.refl _ _) _)
theorem info_far : ∃ i0, Try.prog.info? 52 = some i0 ∧ i0.zero = some (.agg #[.int .i64 0, .int .i64 0]) ∧ i0.size = 2 ∧ i0.bytes = 16 := by
  have h : (Try.prog.info? 52).map (fun i => (i.zero, i.size, i.bytes)) = some (some (.agg #[.int .i64 0, .int .i64 0]), 2, 16) := by kernel_rfl
  obtain ⟨i, hi, hz⟩ := Option.map_eq_some_iff.1 h
  simp only [Prod.mk.injEq] at hz
  exact ⟨i, hi, hz.1, hz.2.1, hz.2.2⟩
/-- A heap in memory: its variable (block gh), and its row (a block from B on). -/
structure FA (w : World) (gh B : Nat) (l : List Far) (v : Value) : Prop where
  box : w.heap[gh]? = some (.cells #[v] 49 (0, 0))
  row : w.ownsRow B 52 2 v l.length (flat l)
  le : B ≤ gh
  ne : v.ownBlock ≠ some gh
/-- What a call leaves that turns a heap. -/
structure Ch (B gh : Nat) (v v' : Value) (w w' : World) : Prop where
  bel : Below B w w'
  keep : KeepBut w w' gh v.ownBlock
  at_ : v'.ownBlock = v.ownBlock ∨ ∃ b, v'.ownBlock = some b ∧ w.heap.size ≤ b
section
variable {w w' w2 : World} {gh B : Nat} {l : List Far} {v v' v2 : Value}
theorem FA.below (h : FA w gh B l v) (hb : Below w.heap.size w w') : FA w' gh B l v := ⟨blk_below h.box hb, pw_own_below h.row hb, h.le, h.ne⟩
theorem FA.lt (h : FA w gh B l v) : B ≤ w.heap.size := by have h1 := h.le; have h2 := blk_lt h.box; omega
theorem Ch.size (h : Ch B gh v v' w w') : w.heap.size ≤ w'.heap.size := h.bel.size
theorem Ch.refl (v : Value) (w : World) : Ch B gh v v w w := ⟨Below.refl _ _, KeepBut.refl _ _ _, .inl rfl⟩
theorem Ch.trans (h : Ch B gh v v' w w') (k : Ch B gh v' v2 w' w2) : Ch B gh v v2 w w2 := by
  refine ⟨h.bel.trans k.bel, h.keep.trans k.keep h.at_, ?_⟩
  rcases k.at_ with e | ⟨b, e, hb⟩
  · rw [e]; exact h.at_
  · exact .inr ⟨b, e, Nat.le_trans h.size hb⟩
theorem Ch.of (hB : B ≤ w.heap.size) (hb : Below w.heap.size w w') : Ch B gh v v w w' := ⟨hb.mono hB, KeepBut.of_below hb _ _, .inl rfl⟩
theorem Ch.blk {b : Nat} {o : Obj} (h : Ch B gh v v' w w') (hb : w.heap[b]? = some o) (h1 : b ≠ gh) (h2 : some b ≠ v.ownBlock) : w'.heap[b]? = some o := (h.keep.2 b (blk_lt hb) h1 h2).trans hb
/-- The row's block, whole. -/
theorem FA.open_ (h : FA w gh B l v) (hn : 0 < l.length) : ∃ g cap tl, v = .slice (some ⟨g, 0, none⟩) l.length cap ∧ B ≤ g ∧ g ≠ gh ∧ RowF w g l tl ∧ l.length ≤ cap ∧ cap ≤ maxLen ∧ (flat l ++ tl).length = cap * 2 := by
  obtain ⟨_, ⟨_, h0⟩ | ⟨g, cap, cur, rfl, hB, hg, hc, hm, hs, ht⟩⟩ := h.row
  · omega
  · refine ⟨g, cap, cur.toList.drop (l.length * 2), rfl, hB, fun e => h.ne (by simp [Value.ownBlock, e]), ?_, hc, hm, ?_⟩
    · unfold RowF
      rw [← ht, List.take_append_drop, Array.toArray_toList]
      exact hg
    · rw [← ht, List.take_append_drop, Array.length_toList]
      exact hs
theorem own_of {g cap n : Nat} {tl : List Value} (h : RowF w g l tl) (hB : B ≤ g) (hn : n ≤ l.length) (hc : l.length ≤ cap) (hm : cap ≤ maxLen) (hs : (flat l ++ tl).length = cap * 2) : w.ownsRow B 52 2 (.slice (some ⟨g, 0, none⟩) n cap) n (flat (l.take n)) := by
  refine ⟨by rw [flat_length, List.length_take]; omega, .inr ⟨g, cap, _, rfl, hB, h, by omega, hm, by simpa using hs, ?_⟩⟩
  show (flat l ++ tl).take (n * 2) = _
  rw [List.take_append_of_le_length (by rw [flat_length]; omega), flat_take]
end
set_option maxHeartbeats 4000000 in
set_option maxRecDepth 100000 in
theorem push_m {w : World} {gh B : Nat} {l : List Far} {v : Value} (hf : FA w gh B l v) (c k : Int) (hl : l.length ≤ 1000000000000) :
    Calls Try.prog 57 #[.pointer (some ⟨gh, 0, none⟩), .iface 52 (.agg #[.int .i64 c, .int .i64 k])] w fun e w' => e = .returned (.tuple #[]) ∧ ∃ v', FA w' gh B (l ++ [(c, k)]) v' ∧ Ch B gh v v' w w' := by
  have HF := Aside0.mk hf
  have HF0 := Aside0.mk hf.lt
  have HL := Aside0.mk hl
  have HB := Aside0.mk (Below.refl w.heap.size w)
  clear hf hl
  go_enter Try.func57, Try.ntmps57
  go_upto_region 0 with (fail)
  have HF := Aside0.mk (HF.out.below (Below.refl w.heap.size w).drew)
  have HB := Aside0.mk ((Below.refl w.heap.size w).drew)
  have HB0 := Aside0.mk (show w.heap.size ≤ w.drew.heap.size from HB.out.size)
  refine start_ (n := 10) (S := fun w' => w'.cell? ⟨gh, 0, none⟩ = some v) (ds := [7, 9]) (ab 10 0) (by kernel_rfl) rfl rfl ((blk_cell HF.out.box 0).trans rfl) (fun hHeld => ?_)
  generalize w.drew = wd at HF HB HB0 hHeld ⊢
  refine pure_ (i := 0) (N := some 4) (v := ?_) (a' := ?_) (ab 10 1) rfl rfl (by kernel_rfl) (fun _ _ _ h => h) (Or.inl ⟨by rfl, ?_⟩) ?_ ?_
  rotate_left
  · intro w'
    go_simp
    with_reducible rfl
  rotate_left
  · simp only [Act.put, zq1, zq2, zq3, i64_w, i32_w]
    rfl
  refine pure_ (i := 1) (N := some 5) (v := ?_) (a' := ?_) (ab 10 3) rfl rfl (by kernel_rfl) (fun _ _ _ h => h) (Or.inl ⟨by rfl, ?_⟩) ?_ ?_
  rotate_left
  · intro w'
    go_simp
    with_reducible rfl
  rotate_left
  · simp only [Act.put, zq1, zq2, zq3, i64_w, i32_w]
    rfl
  refine pure_ (i := 2) (N := some 6) (v := ?_) (a' := ?_) (ab 10 7) rfl rfl (by kernel_rfl) (fun _ _ _ h => h) (Or.inl ⟨by rfl, ?_⟩) ?_ ?_
  rotate_left
  · intro w'
    go_simp
    with_reducible rfl
  rotate_left
  · simp only [Act.put, zq1, zq2, zq3, i64_w, i32_w]
    rfl
  refine pure_ (i := 4) (N := some 8) (v := ?_) (a' := ?_) (ab 10 23) rfl rfl (by kernel_rfl) (fun _ _ _ h => h) (Or.inl ⟨by rfl, ?_⟩) ?_ ?_
  rotate_left
  · intro w'
    go_simp
    with_reducible rfl
  rotate_left
  · simp only [Act.put, zq1, zq2, zq3, i64_w, i32_w]
    rfl
  refine pure_ (i := 5) (N := some 9) (v := ?_) (a' := ?_) (ab 10 55) rfl rfl (by kernel_rfl) (fun _ _ _ h => h) (Or.inl ⟨by rfl, ?_⟩) ?_ ?_
  rotate_left
  · intro w'
    go_simp
    with_reducible rfl
  rotate_left
  · simp only [Act.put, zq1, zq2, zq3, i64_w, i32_w]
    rfl
  refine take_ (i := 3) (N := some 7) (v := ?_) (a' := ?_) (ab 10 63) rfl rfl (by kernel_rfl) (fun _ _ _ h => h) (Or.inl ⟨by rfl, ?_⟩) hHeld ?_ ?_
  rotate_left
  · intro w' s0
    go_simp
    with_reducible rfl
  rotate_left
  · simp only [Act.put, zq1, zq2, zq3, i64_w, i32_w]
    rfl
  refine one_ (i := 6) (N := some 10) (ab 10 127) rfl rfl (by kernel_rfl) (by decide) (fun K hK => ?_)
  refine row_step (by rfl) rfl (cs := #[.int .i64 c, .int .i64 k]) (t := 52) (n := 1) ?_ ?_
  · first | (go_simp; done) | (go_simp; rfl)
  intro g8 hg wa hbox hb
  have HRW := Aside0.mk hbox
  have HF := Aside0.mk (HF.out.below hb)
  have HB := Aside0.mk (HB.out.trans (hb.mono HB.out.size))
  have HG := Aside0.mk (show w.heap.size ≤ g8 from by have := HB0.out; rw [hg]; exact HB0.out)
  clear hg hb hbox
  refine hK.out _ _ ((blk_cell HF.out.box 0).trans rfl) (fun hHeld => ?_)
  clear hK K
  refine norm_ (a' := ?_) ?_ ?_
  rotate_left
  · show Act.put _ (some 10) _ = _
    simp only [Act.put, zq1, zq2, zq3, i64_w, i32_w]
    rfl
  refine last_ (i := 7) (N := some 11) (ab 10 255) rfl rfl (by kernel_rfl) (by decide) (fun K hK => ?_)
  obtain ⟨i0, hi0, hz0, hs0, hb0⟩ := info_far
  refine step_append_lies wa rfl (.tmp 7) (.tmp 10) 49 rfl B 52 i0 _ 2 16 Try.underlying49 hi0 hz0 hs0 hb0 rfl (by decide) v l.length (flat l) rfl HF.out.row ⟨g8, 0, none⟩ 1 1 [.int .i64 c, .int .i64 k] rfl rfl (by simpa using World.news_of_block HRW.out) (by simp [Value.oneCell']) (by decide) (by have := HL.out; unfold maxLen; omega) (by have := HL.out; omega) (by have h1 := HF.out.le; have h2 := blk_lt HF.out.box; omega) _ rfl ?_
  intro g1 cap wb hown hgr hat hlt
  have HO := Aside0.mk hown
  have HGR := Aside0.mk hgr
  have HAT := Aside0.mk hat
  have BX := Aside0.mk (blk_grown HF.out.box hgr (fun e => HF.out.ne e.symm))
  have cz := (blk_cell BX.out 0).trans rfl
  have fz := blk_frozen BX.out 0
  clear hown hgr hat hlt i0 hi0 hz0 hs0 hb0
  refine hK.out _ _ ?_
  clear hK K
  refine norm_ (a' := ?_) ?_ ?_
  rotate_left
  · show Act.put _ (some 11) _ = _
    simp only [Act.put, zq1, zq2, zq3, i64_w, i32_w]
    rfl
  refine pure_ (i := 8) (N := some 12) (v := ?_) (a' := ?_) (ab 10 511) rfl rfl (by kernel_rfl) (fun _ _ _ h => h) (Or.inl ⟨by rfl, ?_⟩) ?_ ?_
  rotate_left
  · intro w'
    go_simp
    with_reducible rfl
  rotate_left
  · simp only [Act.put, zq1, zq2, zq3, i64_w, i32_w]
    rfl
  refine last_ (i := 9) (N := none) (ab 10 1023) rfl rfl (by kernel_rfl) (by decide) (fun K hK => ?_)
  refine skip_ (w1 := ?_) (by rfl) rfl ?_ ?_
  rotate_left
  · go_simp
    rfl
  refine hK.out _ _ ?_
  clear hK K
  refine done_ (by kernel_rfl) ?_

  clear cz fz
  go_wp2
  go_end0
  have h1 : v.ownBlock ≠ some gh := HF.out.ne
  have hne : (Value.slice (some ⟨g1, 0, none⟩) (l.length + 1) cap).ownBlock ≠ some gh := by
    rcases HAT.out with e | e
    · rw [e] at h1; exact h1
    · intro e'; simp [Value.ownBlock] at e'; have := blk_lt HF.out.box; omega
  refine ⟨rfl, _, ⟨blk_put BX.out 0 _ rfl, ?_, HF.out.le, hne⟩, ?_, ?_, ?_⟩
  · have := own_setCell (p := ⟨gh, 0, none⟩) HO.out (fun e => hne e.symm) (.slice (some ⟨g1, 0, none⟩) (l.length + 1) cap)
    rw [List.length_append, flat_append]
    exact this
  · exact (pw_below_grown (HB.out.mono HF0.out) v.ownBlock (Nat.le_trans HF0.out HB.out.size) HGR.out (own_base HF.out.row)).setCell HF.out.le _
  · exact ((KeepBut.of_below HB.out gh v.ownBlock).trans (KeepBut.of_grown HGR.out gh) (.inl rfl)).set_ 0 _
  · rcases HAT.out with e | e
    · exact .inl e.symm
    · exact .inr ⟨g1, rfl, by rw [e]; exact HB.out.size⟩
set_option maxHeartbeats 4000000 in
set_option maxRecDepth 100000 in
theorem pop_m {w : World} {gh B : Nat} {l : List Far} {v : Value} (hf : FA w gh B l v) (h0 : 0 < l.length) (hl : l.length ≤ 1000000000000) :
    Calls Try.prog 56 #[.pointer (some ⟨gh, 0, none⟩)] w fun e w' => e = .returned (.iface 52 (.agg #[.int .i64 (at_ l (l.length - 1)).1, .int .i64 (at_ l (l.length - 1)).2])) ∧ ∃ v', FA w' gh B (l.take (l.length - 1)) v' ∧ Ch B gh v v' w w' := by
  obtain ⟨g, cap, tl, rfl, hB, hne, hr, hc, hm, hs⟩ := hf.open_ h0
  obtain ⟨n, hn⟩ : ∃ n, l.length = n := ⟨_, rfl⟩
  have hx := hr.cell (i := l.length - 1) (by omega)
  obtain ⟨c, hci⟩ : ∃ x, (at_ l (l.length - 1)).1 = x := ⟨_, rfl⟩
  obtain ⟨k, hki⟩ : ∃ x, (at_ l (l.length - 1)).2 = x := ⟨_, rfl⟩
  rw [hci, hki] at hx
  have HF := Aside0.mk hf
  have HR := Aside0.mk hr
  have HGR := Aside0.mk (blk_lt hr)
  have HL := Aside0.mk (show 0 < l.length ∧ l.length ≤ cap ∧ cap ≤ maxLen ∧ (flat l ++ tl).length = cap * 2 ∧ B ≤ g ∧ g ≠ gh from ⟨h0, hc, hm, hs, hB, hne⟩)
  have HN := Aside0.mk hn
  rw [hci, hki]
  have b0 : w.cell? ⟨gh, 0, none⟩ = some (.slice (some ⟨g, 0, none⟩) l.length cap) := (blk_cell hf.box 0).trans rfl
  rw [hn] at hx hl h0 b0
  obtain ⟨m, rfl⟩ : ∃ m, n = m + 1 := ⟨n - 1, by omega⟩
  rw [Nat.add_sub_cancel] at hx
  have c0 := hx.1
  have c1 := hx.2
  have hw : wrap64 (((m + 1 : Nat) : Int) - 1) = (m : Int) := by rw [wrap_in (by omega) (by omega)]; omega
  have p0 : ((0 : Int) ≤ (m : Int)) = True := eq_true (by omega)
  have p1 : ((m : Int) < ((m + 1 : Nat) : Int)) = True := eq_true (by omega)
  have ti : ((m : Int)).toNat = m := Int.toNat_natCast m
  have HGH := Aside0.mk (blk_lt hf.box)
  clear hn hci hki hx h0 hB hne hr hc hm hs hf
  go_enter Try.func56, Try.ntmps56
  go_upto_region 3 with (first | ((with_reducible refine gate_dst (N := 4) rfl ?_); refine box_event ?hg (N := 4) ?hd (cs := #[.int .i64 0, .int .i64 0]) (t := 52) ?hr ?_; (case hd => rfl); (case hg => rfl); (case hr => first | (go_simp; done) | (go_simp; rfl)); intro g7 hg w4 hbox hb; have BK := Aside0.mk hbox; have HG7 := Aside0.mk hg; have cz0 := (blk_cell BK.out 0).trans rfl; have cz1 := (blk_cell BK.out 1).trans rfl; have fz0 := blk_frozen BK.out 0; have fz1 := blk_frozen BK.out 1; have HB := Aside0.mk hb; have HF := Aside0.mk (HF.out.below hb); have HR := Aside0.mk (HR.out.below hb); clear hg hbox hb b0 c0 c1))
  have HF := Aside0.mk (show FA ((w4.setCell ⟨g7, 0, none⟩ (.int .i64 c)).setCell ⟨g7, 1, none⟩ (.int .i64 k)) gh B l (.slice (some ⟨g, 0, none⟩) l.length cap) from ⟨blk_far (blk_far HF.out.box (by have h1 := HGH.out; have h2 := HG7.out; show gh ≠ g7; omega) _) (by have h1 := HGH.out; have h2 := HG7.out; show gh ≠ g7; omega) _, own_setCell (own_setCell HF.out.row (by have h2 := HG7.out; show some g7 ≠ _; intro e; have := HGR.out; simp [Value.ownBlock] at e; omega) _) (by have h2 := HG7.out; show some g7 ≠ _; intro e; have := HGR.out; simp [Value.ownBlock] at e; omega) _, HF.out.le, HF.out.ne⟩)
  have HR := Aside0.mk (show RowF ((w4.setCell ⟨g7, 0, none⟩ (.int .i64 c)).setCell ⟨g7, 1, none⟩ (.int .i64 k)) g l tl from blk_far (blk_far HR.out (by have h1 := HGR.out; have h2 := HG7.out; show g ≠ g7; omega) _) (by have h1 := HGR.out; have h2 := HG7.out; show g ≠ g7; omega) _)
  have BK := Aside0.mk (show ((w4.setCell ⟨g7, 0, none⟩ (.int .i64 c)).setCell ⟨g7, 1, none⟩ (.int .i64 k)).heap[g7]? = some (.cells #[.int .i64 c, .int .i64 k] 52 (0, 0)) from blk_put (blk_put BK.out 0 _ rfl) 1 _ rfl)
  have HB := Aside0.mk (show Below w.heap.size w ((w4.setCell ⟨g7, 0, none⟩ (.int .i64 c)).setCell ⟨g7, 1, none⟩ (.int .i64 k)) from (HB.out.setCell (Nat.le_of_eq HG7.out.symm) _).setCell (Nat.le_of_eq HG7.out.symm) _)
  clear cz0 cz1 fz0 fz1
  generalize (w4.setCell ⟨g7, 0, none⟩ (.int .i64 c)).setCell ⟨g7, 1, none⟩ (.int .i64 k) = w5 at HF HR BK HB ⊢
  have b0 : w5.cell? ⟨gh, 0, none⟩ = some (.slice (some ⟨g, 0, none⟩) (m + 1) cap) := by rw [← HN.out]; exact (blk_cell HF.out.box 0).trans rfl
  have f0 := blk_frozen HF.out.box 0
  have hcap : ((m : Int) ≤ (cap : Int)) = True := eq_true (by have h1 := HL.out.2.1; have h2 := HN.out; omega)
  go_upto_region 4 with (fail)
  have HG7H := Aside0.mk (show g7 ≠ gh from by have h1 := HGH.out; have h2 := HG7.out; omega)
  have BK := Aside0.mk (show (w5.setCell ⟨gh, 0, none⟩ (.slice (some ⟨g, 0, none⟩) m cap)).heap[g7]? = some (.cells #[.int .i64 c, .int .i64 k] 52 (0, 0)) from blk_far BK.out HG7H.out _)
  have HX := Aside0.mk (show FA (w5.setCell ⟨gh, 0, none⟩ (.slice (some ⟨g, 0, none⟩) m cap)) gh B (l.take m) (.slice (some ⟨g, 0, none⟩) m cap) from ⟨blk_put HF.out.box 0 _ rfl, by
    have h1 := HL.out
    have h2 := HN.out
    have h3 := own_of (n := m) HR.out h1.2.2.2.2.1 (by omega) h1.2.1 h1.2.2.1 h1.2.2.2.1
    have h4 := own_setCell (p := ⟨gh, 0, none⟩) h3 (by show some gh ≠ _; intro e; simp [Value.ownBlock] at e; omega) (.slice (some ⟨g, 0, none⟩) m cap)
    have h5 : (l.take m).length = m := by rw [List.length_take]; omega
    rw [h5]
    exact h4, HF.out.le, HF.out.ne⟩)
  have HC := Aside0.mk (show Ch B gh (.slice (some ⟨g, 0, none⟩) l.length cap) (.slice (some ⟨g, 0, none⟩) m cap) w (w5.setCell ⟨gh, 0, none⟩ (.slice (some ⟨g, 0, none⟩) m cap)) from ⟨(HB.out.mono (by have h1 := HL.out; have h2 := HGR.out; omega)).setCell HF.out.le _, (KeepBut.of_below HB.out gh _).set_ 0 _, .inl rfl⟩)
  clear b0 f0
  generalize w5.setCell ⟨gh, 0, none⟩ (.slice (some ⟨g, 0, none⟩) m cap) = w6 at BK HX HC ⊢
  have d0 := (blk_cell BK.out 0).trans rfl
  have d1 := (blk_cell BK.out 1).trans rfl
  go_wp2
  go_ret
  exact ⟨rfl, _, by rw [HN.out, Nat.add_sub_cancel]; exact HX.out, HC.out⟩

end Go.Proofs.Ytmpfboilodlfnaa.FlowMem

