/- tree.Tick. Under the conditions that stand at it. -/
import Derived.Test.YtbpgfjfkogdolaaTreeAllTreeAsks
import Derived.Laws.MakeOwn
namespace Go.Proofs.Ytbpgfjfkogdolaa.TreeTopTreeAsks
open Go Go.RowKit Go.Proofs.YtbpgfjfkogdolaaW.PrintWords Go.Proofs.YtbpgfjfkogdolaaW.PrintLast Go.Proofs.YtbpgfjfkogdolaaW.PrintMore Go.Proofs.Ytbpgfjfkogdolaa.PTreeAsks Go.Proofs.Ytbpgfjfkogdolaa.Fnv Go.Proofs.Ytbpgfjfkogdolaa.TreePlainTreeAsks Go.Proofs.Ytbpgfjfkogdolaa.TreeMemTreeAsks Go.Proofs.Ytbpgfjfkogdolaa.TreeTickTreeAsks Go.Proofs.Ytbpgfjfkogdolaa.TreeAgainTreeAsks Go.Proofs.Ytbpgfjfkogdolaa.TreeListTreeAsks Go.Proofs.Ytbpgfjfkogdolaa.TreeRowTreeAsks Go.Proofs.Ytbpgfjfkogdolaa.TreeCheckTreeAsks Go.Proofs.Ytbpgfjfkogdolaa.TreeAllTreeAsks
set_option linter.unusedVariables false
set_option linter.unusedSimpArgs false
section
variable {σ : Type} (an : σ → ByteArray → Int × σ)
def walkF (k : Nat) (n : Nd) (m : List Int) (s : σ) : Option (Int × List Int × Int × σ) := (tickF an k n 0 m s).bind fun x => some (x.1, x.2.1, 0, x.2.2)
def topF (k : Nat) (n : Nd) (mem : List Int) (s : σ) : Option (Int × List Int × Int × σ) :=
  (checkF k n 0).bind fun x => if x.1 = 0 then (sizeF k n).bind fun z => if 0 < z ∧ z ≤ 1000000 then
      if 0 < mem.length then
        if (mem.length : Int) = z then (tree_fits.f k n.f0 n.f1 n.f2 n.f3 mem).bind fun b => if b = true then walkF an k n mem s else some (0, [], 7, s)
        else some (0, [], 7, s)
      else walkF an k n (List.replicate z.toNat 0) s
    else none
  else some (0, [], x.1, s)
end
/-- What is known of the function that is asked, at the world where it is handed over. -/
structure Asks {σ : Type} (W0 : World) (ok : Nat → Prop) (Inv : World → σ → Prop) (av : Value) (an : σ → ByteArray → Int × σ) : Prop where
  stab : ∀ {w w' : World} {s : σ}, Inv w s → Below W0.heap.size w w' → Inv w' s
  tree : ∀ {w : World} {s : σ}, Inv w s → ∀ k, ok k → k < W0.heap.size → w.heap[k]? = W0.heap[k]?
  ask : ∃ (g : FuncId) (lb : Array Value) (fn : Func), av = .func (.func g) #[] lb ∧ Try.prog.funcs[g]? = some fn ∧ (fn.name == "runtime.NumGoroutine") = false ∧ fn.body.isSome = true ∧
    ∀ (w : World) (s : σ) (x : ByteArray), Inv w s → W0.heap.size ≤ w.heap.size → Calls Try.prog g (#[.string x] ++ lb) w fun e w' => e = .returned (.int .i64 (an s x).1) ∧ Inv w' (an s x).2 ∧ w.heap.size ≤ w'.heap.size ∧ ∀ j, W0.heap.size ≤ j → j < w.heap.size → w'.heap[j]? = w.heap[j]?
theorem Asks.env {σ : Type} {W0 : World} {ok : Nat → Prop} {Inv : World → σ → Prop} {av : Value} {an : σ → ByteArray → Int × σ} (h : Asks W0 ok Inv av an) {gW gM : Nat} (h1 : W0.heap.size ≤ gW) (h2 : W0.heap.size ≤ gM) (h3 : gW ≠ gM) : Env W0 ok Inv W0.heap.size gW gM av an := ⟨h1, h2, h3, h.stab, h.tree, h.ask⟩

theorem madeCells_one (v : Value) (hv : v.cells = #[v]) (n : Nat) : madeCells v.cells (n * 1) = (List.replicate n v).toArray := by
  rw [hv]
  apply Array.ext
  · simp [size_madeCells]
  · intro i h1 h2
    simp [madeCells, Nat.mod_one]
section
variable {P : Program} {ops : Array Oper} {Q : Exit → Act → World → Prop} {rest : List Oper}
/-- A call under a guard that lets it be. -/
theorem goesW_ {oi : Oper} {a : Act} {w : World} (N : Option Tmp) (hd : oi.dst = N) (hw : Region.wanted oi (yielded ops a.tmps) = true) {f : FuncId} {fn : Func} {xs : Array Operand} {ts : Array TypeId} (hf : P.funcs[f]? = some fn) (hname : (fn.name == "runtime.NumGoroutine") = false) (hb : fn.body.isSome = true) (args : Array Value)
    (hop : oi.op = .call { callee := .value (.func f), args := xs, argTypes := ts }) (hargs : xs.map a.eval = args)
    (h : Calls P f args w fun e w' => ∃ v, e = .returned v ∧ wpList P ops Q rest (a.put N v) w') : wpList P ops Q (oi :: rest) a w := by
  refine wpList_step fun K hK => ?_
  rw [if_pos hw]
  have he := enters_ hf hname hb args w
  have hrun : (execOp a.eval oi).run P w = .ok (.enter f args) w := by
    unfold execOp
    simp [hop, resolve, Deferred.ofValue, invoke, Act.eval, hargs, he]
  unfold Oper.wp
  rw [hrun, Oper.upon_enter]
  refine h.mono fun e w'' hh => ?_
  obtain ⟨v, rfl, hk⟩ := hh
  subst hd
  exact hK _ _ hk
end
/-- A made row, whole. -/
theorem make_event {P : Program} {w : World} {ops : Array Oper} {rest : List Oper} {o : Oper} {a : Act} {Q : Exit → Act → World → Prop} (hgd : o.guard = none) {N : Tmp} (_hd : o.dst = some N) (t e : TypeId) (x y : Operand) (ho : o.op = .makeSlice t x y) (n : Nat) (hx : a.eval x = .int .i64 n) (hy : a.eval y = .int .i64 n)
    (ht : P.underlying t = some (.slice e)) (hinfo : (P.info? e).map (fun i => (i.zero, i.size, i.bytes)) = some (some (.int .i64 0), 1, 8)) (hn : n ≤ 1000000)
    (h : ∀ g, g = w.heap.size → ∀ w1, w1.heap[g]? = some (.cells ((List.replicate n (0 : Int)).map (Value.int .i64)).toArray e (0, 0)) → Below w.heap.size w w1 → wpList P ops Q rest (a.put o.dst (.slice (some ⟨g, 0, none⟩) n n)) w1) : wpList P ops Q (o :: rest) a w := by
  obtain ⟨i, hi, hzz⟩ := Option.map_eq_some_iff.1 hinfo
  simp only [Prod.mk.injEq] at hzz
  obtain ⟨hz, hs, hb⟩ := hzz
  have hr := run_make (P := P) w t e i _ ht hi hz .i64 .i64 (n : Int) (n : Int) (by omega) (by omega) (by rw [hb]; omega) (by omega)
  simp only [Int.toNat_natCast, hs] at hr
  rw [madeCells_one _ rfl] at hr
  refine Kd.event_run hgd (w1 := w.alloc (.cells (List.replicate n (Value.int .i64 0)).toArray e)) (v := .slice (some ⟨w.heap.size, 0, none⟩) n n) (by simp [execOp, ho, hx, hy, hr]) (h _ rfl _ ?_ (below_alloc (Below.refl _ _) _))
  rw [List.map_replicate]
  exact blk_new w _
/-- A walker's row, as a row of the call's own. -/
theorem R_blk {w : World} {base g : Nat} {m : List Int} (h : w.heap[g]? = some (.cells (m.map (Value.int .i64)).toArray 3 (0, 0))) (hb : base ≤ g) (hl : m.length ≤ 1000000) : Kd.R (Kd.int .i64) 3 w base (fun k => base ≤ k) (.slice (some ⟨g, 0, none⟩) m.length m.length) m := by
  refine Kd.R_of_own (enc := fun x => Value.int .i64 x) ⟨by simp [encs], Or.inr ⟨g, m.length, _, rfl, hb, h, Nat.le_refl _, by simp [maxLen]; omega, by simp, by simp [encs]; exact List.take_of_length_le (by simp)⟩⟩ ?_
  intro k hk
  simp [Value.ownBlock] at hk
  omega
theorem C_cells {w : World} {A : Option Addr} {l : List Int} (h : Kd.C (Kd.int .i64) w A l.length l) (hn : 0 < l.length) : ∃ ad, A = some ad ∧ ∀ j v, (l.map (Value.int .i64))[j]? = some v → w.cell? (ad.add j) = some v := by
  obtain ⟨ad, rfl, hc⟩ := h.2.2 (by omega)
  refine ⟨ad, rfl, fun j v hj => ?_⟩
  rw [List.getElem?_map] at hj
  obtain ⟨x, hx, rfl⟩ := Option.map_eq_some_iff.mp hj
  obtain ⟨cs, hl, hK, hcell⟩ := hc j x hx
  have hcs : cs = [.int .i64 x] := hK
  subst hcs
  have := hcell 0 _ rfl
  have e : j * (Kd.int .i64).sz + 0 = j := by show j * 1 + 0 = j; omega
  rwa [e] at this

theorem laid_all {m l : List Int} (h : l.length = m.length) : laid m 0 l = l := by
  unfold laid
  rw [List.take_zero, List.nil_append, List.drop_of_length_le (by omega), List.append_nil]
set_option maxHeartbeats 8000000 in
set_option maxRecDepth 100000 in
theorem Top_any {σ : Type} {ok : Nat → Prop} {Inv : World → σ → Prop} {av : Value} {an : σ → ByteArray → Int × σ} (k : Nat) (n : Nd) (A3 : Option Addr) (c3 : Nat) (A1 : Option Addr) (c1 : Nat) (l1 : List Int) {w : World} (E : Asks w ok Inv av an) {s : σ} (hI : Inv w s) (hok : ∀ k, ok k → k < w.heap.size) (hT : Tr w ok A3 n.f3) (hc : n.f3.length ≤ c3) (hm : Kd.C (Kd.int .i64) w A1 l1.length l1) (hmc : l1.length ≤ c1)
    {r er : Int} {m2 : List Int} {s2 : σ} (hF : topF an k n l1 s = some (r, m2, er, s2)) :
    Calls Try.prog 7 #[.agg #[.int .i64 n.f0, .string n.f1, .int .i64 n.f2, .slice A3 n.f3.length c3], .slice A1 l1.length c1, av] w fun e w' => ∃ v, e = .returned (.tuple #[.int .i64 r, v, .int .i64 er]) ∧ Kd.R (Kd.int .i64) 3 w' w.heap.size (fun k => w.heap.size ≤ k) v m2 ∧ Inv w' s2 ∧ w.heap.size ≤ w'.heap.size := by
  obtain ⟨n0, n1, n2, n3⟩ := n
  dsimp only at hT hc ⊢
  have HT := Aside0.mk hT
  have HC := Aside0.mk hc
  have HM := Aside0.mk hm
  have HMC := Aside0.mk hmc
  have HOK := Aside0.mk hok
  have HI := Aside0.mk hI
  obtain ⟨ga, lb, fna, rfl, _, _, _, _⟩ := E.ask
  have HE := Aside0.mk E
  unfold topF at hF
  obtain ⟨⟨x1, x2⟩, hk, hF⟩ := Option.bind_eq_some_iff.mp hF
  dsimp only at hF
  have HK := Aside0.mk hk
  clear hT hc hm hmc hok hI E hk
  by_cases d1 : x1 = 0
  · rw [if_pos d1] at hF
    subst d1
    obtain ⟨z, hz, hF⟩ := Option.bind_eq_some_iff.mp hF
    by_cases dz : 0 < z ∧ z ≤ 1000000
    · rw [if_pos dz] at hF
      obtain ⟨ζ, rfl⟩ : ∃ ζ : Nat, z = ζ := ⟨z.toNat, by omega⟩
      have HZ : Aside0 (tree_Size.f k n0 n1 n2 n3 = some (ζ : Int)) := ⟨hz⟩
      have HZ1 : Aside0 (0 < ζ ∧ ζ ≤ 1000000) := ⟨by omega⟩
      clear hz dz
      by_cases dm : 0 < l1.length
      · rw [if_pos dm] at hF
        have bm : decide ((l1.length : Int) > 0) = true := decide_eq_true (by omega)
        by_cases dl : (l1.length : Int) = ζ
        · rw [if_pos dl] at hF
          obtain rfl : ζ = l1.length := by omega
          obtain ⟨fb, hfb, hF⟩ := Option.bind_eq_some_iff.mp hF
          have HFB := Aside0.mk hfb
          clear hfb dl
          cases fb with
          | false =>
            simp only [Bool.false_eq_true, if_false, Option.some.injEq, Prod.mk.injEq] at hF
            obtain ⟨rfl, rfl, rfl, rfl⟩ := hF
            go_enter Try.func7, Try.ntmps7
            go_wp2_with (first | ((with_reducible refine gate_dst (N := 3) rfl ?_); refine box_event ?hg (N := 3) ?hd (cs := #[.int .i64 n0, .string n1, .int .i64 n2, .slice A3 n3.length c3]) (t := 25) ?hr ?_; (case hd => rfl); (case hg => rfl); (case hr => first | (go_simp; done) | (go_simp; rfl)); intro gb hg w1 hbox hb1; have BK := Aside0.mk hbox; have HB1 := Aside0.mk hb1; have HG := Aside0.mk hg; have HT1 := Aside0.mk (Kd.F_below HT.out hb1); clear hg hbox hb1; have cb0 := (blk_cell BK.out 0).trans rfl; have cb1 := (blk_cell BK.out 1).trans rfl; have cb2 := (blk_cell BK.out 2).trans rfl; have cb3 := (blk_cell BK.out 3).trans rfl) | ((with_reducible refine gate_callee (f := 14) rfl ?_); refine goesL_ (some 13) rfl rfl Try.func14 (by kernel_rfl) rfl #[.agg #[.int .i64 n0, .string n1, .int .i64 n2, .slice A3 n3.length c3]] rfl (by (try simp only [zm1, zm2, zm3]); first | done | rfl) ?_; (with_reducible refine (Check_any k ⟨n0, n1, n2, n3⟩ A3 c3 (fun j hj => Nat.lt_of_lt_of_le (HOK.out j hj) HB1.out.size) HT1.out HC.out HK.out).mono ?_); rintro e w2 ⟨rfl, hb⟩; refine ⟨_, rfl, ?_⟩; have BK2 := Aside0.mk (blk_below BK.out hb); have HB2 := Aside0.mk (HB1.out.trans (hb.mono HB1.out.size)); have HT2 := Aside0.mk (Kd.F_below HT1.out hb); clear hb; clear cb0 cb1 cb2 cb3; have cb0 := (blk_cell BK2.out 0).trans rfl; have cb1 := (blk_cell BK2.out 1).trans rfl; have cb2 := (blk_cell BK2.out 2).trans rfl; have cb3 := (blk_cell BK2.out 3).trans rfl) | ((with_reducible refine gate_callee (f := 15) rfl ?_); refine goesW_ (some 24) rfl ?hw Try.func15 (by kernel_rfl) rfl #[.agg #[.int .i64 n0, .string n1, .int .i64 n2, .slice A3 n3.length c3]] rfl (by (try simp only [zm1, zm2, zm3]); first | done | rfl) ?_; (case hw => rfl); (with_reducible refine (tree_Size.calls k n0 n1 n2 _ _ n3 _ _ (Kd.F_now HT2.out) HC.out HZ.out).mono ?_); rintro e w3 ⟨rfl, hb⟩; refine ⟨_, rfl, ?_⟩; have BK3 := Aside0.mk (blk_below BK2.out hb); have HB3 := Aside0.mk (HB2.out.trans (hb.mono HB2.out.size)); have HT3 := Aside0.mk (Kd.F_below HT2.out hb); clear hb; clear cb0 cb1 cb2 cb3; have cb0 := (blk_cell BK3.out 0).trans rfl; have cb1 := (blk_cell BK3.out 1).trans rfl; have cb2 := (blk_cell BK3.out 2).trans rfl; have cb3 := (blk_cell BK3.out 3).trans rfl) | ((with_reducible refine gate_callee (f := 30) rfl ?_); refine goesW_ (some 29) rfl ?hw Try.func30 (by kernel_rfl) rfl #[.agg #[.int .i64 n0, .string n1, .int .i64 n2, .slice A3 n3.length c3], .slice _ l1.length c1] rfl (by (try simp only [zm1, zm2, zm3]); first | done | rfl) ?_; (case hw => rfl); (with_reducible refine (tree_fits.calls k n0 n1 n2 _ _ n3 _ _ l1 _ _ (Kd.F_now HT3.out) HC.out (Kd.C_below HM.out HB3.out) HMC.out HFB.out).mono ?_); rintro e w4 ⟨rfl, hb⟩; refine ⟨_, rfl, ?_⟩; have BK4 := Aside0.mk (blk_below BK3.out hb); have HB4 := Aside0.mk (HB3.out.trans (hb.mono HB3.out.size)); have HT4 := Aside0.mk (Kd.F_below HT3.out hb); clear hb; clear cb0 cb1 cb2 cb3; have cb0 := (blk_cell BK4.out 0).trans rfl; have cb1 := (blk_cell BK4.out 1).trans rfl; have cb2 := (blk_cell BK4.out 2).trans rfl; have cb3 := (blk_cell BK4.out 3).trans rfl))
            go_ret3
            exact ⟨_, rfl, Kd.R_nil _ _ _ _ _, HE.out.stab HI.out HB4.out, HB4.out.size⟩
          | true =>
            simp only [if_true] at hF
            unfold walkF at hF
            obtain ⟨⟨r', m', s'⟩, htk, hF⟩ := Option.bind_eq_some_iff.mp hF
            simp only [Option.some.injEq, Prod.mk.injEq] at hF
            obtain ⟨rfl, rfl, rfl, rfl⟩ := hF
            have HTK := Aside0.mk htk
            clear htk
            obtain ⟨ad1, rfl, hac⟩ := C_cells HM.out dm
            have HAC := Aside0.mk hac
            have HAD := Aside0.mk (show ∀ j v, (l1.map (Value.int .i64))[j]? = some v → (ad1.add j).block < w.heap.size from fun j v hj => World.block_lt_of_cell? w _ (hac j v hj))
            clear hac
            have h0 : 0 < l1.length := dm
            go_enter Try.func7, Try.ntmps7
            go_wp2_with (first | ((with_reducible refine gate_dst (N := 3) rfl ?_); refine box_event ?hg (N := 3) ?hd (cs := #[.int .i64 n0, .string n1, .int .i64 n2, .slice A3 n3.length c3]) (t := 25) ?hr ?_; (case hd => rfl); (case hg => rfl); (case hr => first | (go_simp; done) | (go_simp; rfl)); intro gb hg w1 hbox hb1; have BK := Aside0.mk hbox; have HB1 := Aside0.mk hb1; have HG := Aside0.mk hg; have HT1 := Aside0.mk (Kd.F_below HT.out hb1); clear hg hbox hb1; have cb0 := (blk_cell BK.out 0).trans rfl; have cb1 := (blk_cell BK.out 1).trans rfl; have cb2 := (blk_cell BK.out 2).trans rfl; have cb3 := (blk_cell BK.out 3).trans rfl) | ((with_reducible refine gate_callee (f := 14) rfl ?_); refine goesL_ (some 13) rfl rfl Try.func14 (by kernel_rfl) rfl #[.agg #[.int .i64 n0, .string n1, .int .i64 n2, .slice A3 n3.length c3]] rfl (by (try simp only [zm1, zm2, zm3]); first | done | rfl) ?_; (with_reducible refine (Check_any k ⟨n0, n1, n2, n3⟩ A3 c3 (fun j hj => Nat.lt_of_lt_of_le (HOK.out j hj) HB1.out.size) HT1.out HC.out HK.out).mono ?_); rintro e w2 ⟨rfl, hb⟩; refine ⟨_, rfl, ?_⟩; have BK2 := Aside0.mk (blk_below BK.out hb); have HB2 := Aside0.mk (HB1.out.trans (hb.mono HB1.out.size)); have HT2 := Aside0.mk (Kd.F_below HT1.out hb); clear hb; clear cb0 cb1 cb2 cb3; have cb0 := (blk_cell BK2.out 0).trans rfl; have cb1 := (blk_cell BK2.out 1).trans rfl; have cb2 := (blk_cell BK2.out 2).trans rfl; have cb3 := (blk_cell BK2.out 3).trans rfl) | ((with_reducible refine gate_callee (f := 15) rfl ?_); refine goesW_ (some 24) rfl ?hw Try.func15 (by kernel_rfl) rfl #[.agg #[.int .i64 n0, .string n1, .int .i64 n2, .slice A3 n3.length c3]] rfl (by (try simp only [zm1, zm2, zm3]); first | done | rfl) ?_; (case hw => rfl); (with_reducible refine (tree_Size.calls k n0 n1 n2 _ _ n3 _ _ (Kd.F_now HT2.out) HC.out HZ.out).mono ?_); rintro e w3 ⟨rfl, hb⟩; refine ⟨_, rfl, ?_⟩; have BK3 := Aside0.mk (blk_below BK2.out hb); have HB3 := Aside0.mk (HB2.out.trans (hb.mono HB2.out.size)); have HT3 := Aside0.mk (Kd.F_below HT2.out hb); clear hb; clear cb0 cb1 cb2 cb3; have cb0 := (blk_cell BK3.out 0).trans rfl; have cb1 := (blk_cell BK3.out 1).trans rfl; have cb2 := (blk_cell BK3.out 2).trans rfl; have cb3 := (blk_cell BK3.out 3).trans rfl) | ((with_reducible refine gate_callee (f := 30) rfl ?_); refine goesW_ (some 29) rfl ?hw Try.func30 (by kernel_rfl) rfl #[.agg #[.int .i64 n0, .string n1, .int .i64 n2, .slice A3 n3.length c3], .slice _ l1.length c1] rfl (by (try simp only [zm1, zm2, zm3]); first | done | rfl) ?_; (case hw => rfl); (with_reducible refine (tree_fits.calls k n0 n1 n2 _ _ n3 _ _ l1 _ _ (Kd.F_now HT3.out) HC.out (Kd.C_below HM.out HB3.out) HMC.out HFB.out).mono ?_); rintro e w4 ⟨rfl, hb⟩; refine ⟨_, rfl, ?_⟩; have BK4 := Aside0.mk (blk_below BK3.out hb); have HB4 := Aside0.mk (HB3.out.trans (hb.mono HB3.out.size)); have HT4 := Aside0.mk (Kd.F_below HT3.out hb); clear hb; clear cb0 cb1 cb2 cb3; have cb0 := (blk_cell BK4.out 0).trans rfl; have cb1 := (blk_cell BK4.out 1).trans rfl; have cb2 := (blk_cell BK4.out 2).trans rfl; have cb3 := (blk_cell BK4.out 3).trans rfl) | ((with_reducible refine gate_callee (f := 15) rfl ?_); refine goesL_ (some 34) rfl rfl Try.func15 (by kernel_rfl) rfl #[.agg #[.int .i64 n0, .string n1, .int .i64 n2, .slice A3 n3.length c3]] rfl (by (try simp only [zm1, zm2, zm3]); first | done | rfl) ?_; (with_reducible refine (tree_Size.calls k n0 n1 n2 _ _ n3 _ _ (Kd.F_now HT4.out) HC.out HZ.out).mono ?_); rintro e w5 ⟨rfl, hb⟩; refine ⟨_, rfl, ?_⟩; have BK5 := Aside0.mk (blk_below BK4.out hb); have HB5 := Aside0.mk (HB4.out.trans (hb.mono HB4.out.size)); have HT5 := Aside0.mk (Kd.F_below HT4.out hb); clear hb; clear cb0 cb1 cb2 cb3; have cb0 := (blk_cell BK5.out 0).trans rfl; have cb1 := (blk_cell BK5.out 1).trans rfl; have cb2 := (blk_cell BK5.out 2).trans rfl; have cb3 := (blk_cell BK5.out 3).trans rfl) | ((with_reducible refine gate_dst (N := 35) rfl ?_); refine make_event rfl (N := 35) rfl 22 3 (.tmp 34) (.tmp 34) rfl l1.length rfl rfl Try.underlying22 info3 (by have := HZ1.out; omega) ?_; intro gM hg w6 hrow hb1; have GM := Aside0.mk (show w.heap.size ≤ gM from (by rw [hg]; exact HB5.out.size)); have NB := Aside0.mk (show gb ≠ gM from (by rw [hg]; exact Nat.ne_of_lt (blk_lt BK5.out))); have RM6 := Aside0.mk hrow; have BK6 := Aside0.mk (blk_below BK5.out hb1); have HB6 := Aside0.mk (HB5.out.trans (hb1.mono HB5.out.size)); clear hg hrow hb1; clear cb0 cb1 cb2 cb3; have cb0 := (blk_cell BK6.out 0).trans rfl; have cb1 := (blk_cell BK6.out 1).trans rfl; have cb2 := (blk_cell BK6.out 2).trans rfl; have cb3 := (blk_cell BK6.out 3).trans rfl) | ((with_reducible refine gate_dst (N := 38) rfl ?_); refine box_event ?hg (N := 38) ?hd (cs := #[.slice (some ⟨gM, 0, none⟩) l1.length l1.length, .func (.func ga) #[] lb]) (t := 60) ?hr ?_; (case hd => rfl); (case hg => rfl); (case hr => first | (go_simp; done) | (go_simp; rfl)); intro gW hg w7 hbox hb1; have NW := Aside0.mk (show gW ≠ gM from (by rw [hg]; exact Nat.ne_of_gt (blk_lt RM6.out))); have GW := Aside0.mk (show w.heap.size ≤ gW from (by rw [hg]; exact HB6.out.size)); have WK7 := Aside0.mk hbox; have RM7 := Aside0.mk (blk_below RM6.out hb1); have BK7 := Aside0.mk (blk_below BK6.out hb1); have HB7 := Aside0.mk (HB6.out.trans (hb1.mono HB6.out.size)); have HGB := Aside0.mk (show w.heap.size ≤ gb from (by rw [HG.out]; exact Nat.le_refl _)); have HS7 := Aside0.mk (show St Inv w.heap.size gW gM _ w7 (List.replicate l1.length 0) s from ⟨by rw [List.length_replicate]; exact hbox, RM7.out, HE.out.stab HI.out HB7.out, HB7.out.size⟩); clear hg hbox hb1; clear cb0 cb1 cb2 cb3; have cb0 := (blk_cell BK7.out 0).trans rfl; have cb1 := (blk_cell BK7.out 1).trans rfl; have cb2 := (blk_cell BK7.out 2).trans rfl; have cb3 := (blk_cell BK7.out 3).trans rfl; have cw0 := (blk_cell WK7.out 0).trans rfl) | ((with_reducible refine gate_builtin (b := .copy) (xs := #[.tmp 42, .tmp 43]) rfl ?_); refine wpList_copy_own rfl (.tmp 42) (.tmp 43) 22 22 rfl 3 Try.underlying22 (by kernel_rfl) gM 0 l1.length l1.length ad1 l1.length c1 rfl rfl ((List.replicate l1.length (0 : Int)).map (Value.int .i64)).toArray 3 RM7.out (l1.map (Value.int .i64)) (by simp) (fun j v hj => (cell_same (HB7.out.block _ (HAD.out j v hj))).trans (HAC.out j v hj)) (by simp) (fun v hv => by obtain ⟨x_, _, rfl⟩ := List.mem_map.mp hv; rfl) ?_; have HS8 := Aside0.mk (laid_all (l := l1) (m := List.replicate l1.length 0) (by simp) ▸ St.row (HE.out.env GW.out GM.out NW.out) HS7.out 0 l1 (by simp)); have BK8 := Aside0.mk ((setRow_other w7 gM gb (((List.replicate l1.length (0 : Int)).map (Value.int .i64)).toArray.toList.take 0 ++ ((l1.map (Value.int .i64)) ++ ((List.replicate l1.length (0 : Int)).map (Value.int .i64)).toArray.toList.drop (0 + (l1.map (Value.int .i64)).length))).toArray NB.out).trans BK7.out); generalize w7.setRow gM (((List.replicate l1.length (0 : Int)).map (Value.int .i64)).toArray.toList.take 0 ++ ((l1.map (Value.int .i64)) ++ ((List.replicate l1.length (0 : Int)).map (Value.int .i64)).toArray.toList.drop (0 + (l1.map (Value.int .i64)).length))).toArray = w8 at HS8 BK8 ⊢; clear cb0 cb1 cb2 cb3; have cb0 := (blk_cell BK8.out 0).trans rfl; have cb1 := (blk_cell BK8.out 1).trans rfl; have cb2 := (blk_cell BK8.out 2).trans rfl; have cb3 := (blk_cell BK8.out 3).trans rfl; have HLM := Aside0.mk (show l1.length ≤ 1000000000 from (by have := HZ1.out; omega)); have HLL := Aside0.mk (show l1.length ≤ 1000000 from (by have := HZ1.out; omega))) | ((with_reducible refine gate_callee (f := 31) rfl ?_); refine goesL_ (some 47) rfl rfl Try.func31 (by kernel_rfl) rfl #[.pointer (some ⟨gW, 0, none⟩), .agg #[.int .i64 n0, .string n1, .int .i64 n2, .slice A3 n3.length c3], .int .i64 0] rfl (by (try simp only [zm1, zm2, zm3]); first | done | rfl) ?_; (with_reducible refine (Does.run (tick_all (HE.out.env GW.out GM.out NW.out) k) HS8.out HT.out HC.out HLM.out HTK.out).mono ?_); rintro e w9 ⟨rfl, hS9, hK9⟩; refine ⟨_, rfl, ?_⟩; have HS9 := Aside0.mk hS9; have BK9 := Aside0.mk (hK9.blk BK8.out HGB.out NB.out); have HLR := Aside0.mk (Nat.le_trans (Nat.le_of_eq (HS8.out.len (HE.out.env GW.out GM.out NW.out) hS9 hK9)) HLL.out); clear hS9 hK9 cb0 cb1 cb2 cb3 cw0; have cw := (blk_cell HS9.out.hw 0).trans rfl))
            go_still (by kernel_rfl)
            go_wp2
            go_ret3
            have HX := HS9.out.drew (HE.out.env GW.out GM.out NW.out)
            exact ⟨_, rfl, R_blk HX.hm GM.out HLR.out, HX.iv, HX.le⟩
        · rw [if_neg dl] at hF
          simp only [Option.some.injEq, Prod.mk.injEq] at hF
          obtain ⟨rfl, rfl, rfl, rfl⟩ := hF
          have bl : ((l1.length : Int) == (ζ : Int)) = false := beqF dl
          have bl2 : ((l1.length : Int) != (ζ : Int)) = true := bne_iff_ne.mpr dl
          have bl3 : (l1.length = ζ) = False := by simp only [eq_iff_iff, iff_false]; omega
          clear dl
          go_enter Try.func7, Try.ntmps7
          go_wp2_with (first | ((with_reducible refine gate_dst (N := 3) rfl ?_); refine box_event ?hg (N := 3) ?hd (cs := #[.int .i64 n0, .string n1, .int .i64 n2, .slice A3 n3.length c3]) (t := 25) ?hr ?_; (case hd => rfl); (case hg => rfl); (case hr => first | (go_simp; done) | (go_simp; rfl)); intro gb hg w1 hbox hb1; have BK := Aside0.mk hbox; have HB1 := Aside0.mk hb1; have HG := Aside0.mk hg; have HT1 := Aside0.mk (Kd.F_below HT.out hb1); clear hg hbox hb1; have cb0 := (blk_cell BK.out 0).trans rfl; have cb1 := (blk_cell BK.out 1).trans rfl; have cb2 := (blk_cell BK.out 2).trans rfl; have cb3 := (blk_cell BK.out 3).trans rfl) | ((with_reducible refine gate_callee (f := 14) rfl ?_); refine goesL_ (some 13) rfl rfl Try.func14 (by kernel_rfl) rfl #[.agg #[.int .i64 n0, .string n1, .int .i64 n2, .slice A3 n3.length c3]] rfl (by (try simp only [zm1, zm2, zm3]); first | done | rfl) ?_; (with_reducible refine (Check_any k ⟨n0, n1, n2, n3⟩ A3 c3 (fun j hj => Nat.lt_of_lt_of_le (HOK.out j hj) HB1.out.size) HT1.out HC.out HK.out).mono ?_); rintro e w2 ⟨rfl, hb⟩; refine ⟨_, rfl, ?_⟩; have BK2 := Aside0.mk (blk_below BK.out hb); have HB2 := Aside0.mk (HB1.out.trans (hb.mono HB1.out.size)); have HT2 := Aside0.mk (Kd.F_below HT1.out hb); clear hb; clear cb0 cb1 cb2 cb3; have cb0 := (blk_cell BK2.out 0).trans rfl; have cb1 := (blk_cell BK2.out 1).trans rfl; have cb2 := (blk_cell BK2.out 2).trans rfl; have cb3 := (blk_cell BK2.out 3).trans rfl) | ((with_reducible refine gate_callee (f := 15) rfl ?_); refine goesW_ (some 24) rfl ?hw Try.func15 (by kernel_rfl) rfl #[.agg #[.int .i64 n0, .string n1, .int .i64 n2, .slice A3 n3.length c3]] rfl (by (try simp only [zm1, zm2, zm3]); first | done | rfl) ?_; (case hw => rfl); (with_reducible refine (tree_Size.calls k n0 n1 n2 _ _ n3 _ _ (Kd.F_now HT2.out) HC.out HZ.out).mono ?_); rintro e w3 ⟨rfl, hb⟩; refine ⟨_, rfl, ?_⟩; have BK3 := Aside0.mk (blk_below BK2.out hb); have HB3 := Aside0.mk (HB2.out.trans (hb.mono HB2.out.size)); have HT3 := Aside0.mk (Kd.F_below HT2.out hb); clear hb; clear cb0 cb1 cb2 cb3; have cb0 := (blk_cell BK3.out 0).trans rfl; have cb1 := (blk_cell BK3.out 1).trans rfl; have cb2 := (blk_cell BK3.out 2).trans rfl; have cb3 := (blk_cell BK3.out 3).trans rfl))
          go_ret3
          exact ⟨_, rfl, Kd.R_nil _ _ _ _ _, HE.out.stab HI.out HB3.out, HB3.out.size⟩
      · rw [if_neg dm] at hF
        unfold walkF at hF
        rw [Int.toNat_natCast] at hF
        obtain ⟨⟨r', m', s'⟩, htk, hF⟩ := Option.bind_eq_some_iff.mp hF
        simp only [Option.some.injEq, Prod.mk.injEq] at hF
        obtain ⟨rfl, rfl, rfl, rfl⟩ := hF
        have HTK := Aside0.mk htk
        clear htk
        obtain rfl : l1 = [] := List.length_eq_zero_iff.mp (by omega)
        go_enter Try.func7, Try.ntmps7
        go_wp2_with (first | ((with_reducible refine gate_dst (N := 3) rfl ?_); refine box_event ?hg (N := 3) ?hd (cs := #[.int .i64 n0, .string n1, .int .i64 n2, .slice A3 n3.length c3]) (t := 25) ?hr ?_; (case hd => rfl); (case hg => rfl); (case hr => first | (go_simp; done) | (go_simp; rfl)); intro gb hg w1 hbox hb1; have BK := Aside0.mk hbox; have HB1 := Aside0.mk hb1; have HG := Aside0.mk hg; have HT1 := Aside0.mk (Kd.F_below HT.out hb1); clear hg hbox hb1; have cb0 := (blk_cell BK.out 0).trans rfl; have cb1 := (blk_cell BK.out 1).trans rfl; have cb2 := (blk_cell BK.out 2).trans rfl; have cb3 := (blk_cell BK.out 3).trans rfl) | ((with_reducible refine gate_callee (f := 14) rfl ?_); refine goesL_ (some 13) rfl rfl Try.func14 (by kernel_rfl) rfl #[.agg #[.int .i64 n0, .string n1, .int .i64 n2, .slice A3 n3.length c3]] rfl (by (try simp only [zm1, zm2, zm3]); first | done | rfl) ?_; (with_reducible refine (Check_any k ⟨n0, n1, n2, n3⟩ A3 c3 (fun j hj => Nat.lt_of_lt_of_le (HOK.out j hj) HB1.out.size) HT1.out HC.out HK.out).mono ?_); rintro e w2 ⟨rfl, hb⟩; refine ⟨_, rfl, ?_⟩; have BK2 := Aside0.mk (blk_below BK.out hb); have HB2 := Aside0.mk (HB1.out.trans (hb.mono HB1.out.size)); have HT2 := Aside0.mk (Kd.F_below HT1.out hb); clear hb; clear cb0 cb1 cb2 cb3; have cb0 := (blk_cell BK2.out 0).trans rfl; have cb1 := (blk_cell BK2.out 1).trans rfl; have cb2 := (blk_cell BK2.out 2).trans rfl; have cb3 := (blk_cell BK2.out 3).trans rfl) | ((with_reducible refine gate_callee (f := 15) rfl ?_); refine goesL_ (some 34) rfl rfl Try.func15 (by kernel_rfl) rfl #[.agg #[.int .i64 n0, .string n1, .int .i64 n2, .slice A3 n3.length c3]] rfl (by (try simp only [zm1, zm2, zm3]); first | done | rfl) ?_; (with_reducible refine (tree_Size.calls k n0 n1 n2 _ _ n3 _ _ (Kd.F_now HT2.out) HC.out HZ.out).mono ?_); rintro e w5 ⟨rfl, hb⟩; refine ⟨_, rfl, ?_⟩; have BK5 := Aside0.mk (blk_below BK2.out hb); have HB5 := Aside0.mk (HB2.out.trans (hb.mono HB2.out.size)); have HT5 := Aside0.mk (Kd.F_below HT2.out hb); clear hb; clear cb0 cb1 cb2 cb3; have cb0 := (blk_cell BK5.out 0).trans rfl; have cb1 := (blk_cell BK5.out 1).trans rfl; have cb2 := (blk_cell BK5.out 2).trans rfl; have cb3 := (blk_cell BK5.out 3).trans rfl) | ((with_reducible refine gate_dst (N := 35) rfl ?_); refine make_event rfl (N := 35) rfl 22 3 (.tmp 34) (.tmp 34) rfl ζ rfl rfl Try.underlying22 info3 (by have := HZ1.out; omega) ?_; intro gM hg w6 hrow hb1; have GM := Aside0.mk (show w.heap.size ≤ gM from (by rw [hg]; exact HB5.out.size)); have NB := Aside0.mk (show gb ≠ gM from (by rw [hg]; exact Nat.ne_of_lt (blk_lt BK5.out))); have RM6 := Aside0.mk hrow; have BK6 := Aside0.mk (blk_below BK5.out hb1); have HB6 := Aside0.mk (HB5.out.trans (hb1.mono HB5.out.size)); clear hg hrow hb1; clear cb0 cb1 cb2 cb3; have cb0 := (blk_cell BK6.out 0).trans rfl; have cb1 := (blk_cell BK6.out 1).trans rfl; have cb2 := (blk_cell BK6.out 2).trans rfl; have cb3 := (blk_cell BK6.out 3).trans rfl) | ((with_reducible refine gate_dst (N := 38) rfl ?_); refine box_event ?hg (N := 38) ?hd (cs := #[.slice (some ⟨gM, 0, none⟩) ζ ζ, .func (.func ga) #[] lb]) (t := 60) ?hr ?_; (case hd => rfl); (case hg => rfl); (case hr => first | (go_simp; done) | (go_simp; rfl)); intro gW hg w7 hbox hb1; have NW := Aside0.mk (show gW ≠ gM from (by rw [hg]; exact Nat.ne_of_gt (blk_lt RM6.out))); have GW := Aside0.mk (show w.heap.size ≤ gW from (by rw [hg]; exact HB6.out.size)); have WK7 := Aside0.mk hbox; have RM7 := Aside0.mk (blk_below RM6.out hb1); have BK7 := Aside0.mk (blk_below BK6.out hb1); have HB7 := Aside0.mk (HB6.out.trans (hb1.mono HB6.out.size)); have HGB := Aside0.mk (show w.heap.size ≤ gb from (by rw [HG.out]; exact Nat.le_refl _)); have HS7 := Aside0.mk (show St Inv w.heap.size gW gM _ w7 (List.replicate ζ 0) s from ⟨by rw [List.length_replicate]; exact hbox, RM7.out, HE.out.stab HI.out HB7.out, HB7.out.size⟩); clear hg hbox hb1; clear cb0 cb1 cb2 cb3; have cb0 := (blk_cell BK7.out 0).trans rfl; have cb1 := (blk_cell BK7.out 1).trans rfl; have cb2 := (blk_cell BK7.out 2).trans rfl; have cb3 := (blk_cell BK7.out 3).trans rfl; have cw0 := (blk_cell WK7.out 0).trans rfl) | ((with_reducible refine gate_builtin (b := .copy) (xs := #[.tmp 42, .tmp 43]) rfl ?_); refine wpList_copy_nothing rfl (.tmp 42) (.tmp 43) 22 22 rfl 3 Try.underlying22 (by kernel_rfl) _ _ _ _ _ _ rfl rfl (by simp) ?_; have HS8 := HS7; have BK8 := BK7; have HLM := Aside0.mk (show (List.replicate ζ (0 : Int)).length ≤ 1000000000 from (by have := HZ1.out; simp; omega)); have HLL := Aside0.mk (show (List.replicate ζ (0 : Int)).length ≤ 1000000 from (by have := HZ1.out; simp; omega))) | ((with_reducible refine gate_callee (f := 31) rfl ?_); refine goesL_ (some 47) rfl rfl Try.func31 (by kernel_rfl) rfl #[.pointer (some ⟨gW, 0, none⟩), .agg #[.int .i64 n0, .string n1, .int .i64 n2, .slice A3 n3.length c3], .int .i64 0] rfl (by (try simp only [zm1, zm2, zm3]); first | done | rfl) ?_; (with_reducible refine (Does.run (tick_all (HE.out.env GW.out GM.out NW.out) k) HS8.out HT.out HC.out HLM.out HTK.out).mono ?_); rintro e w9 ⟨rfl, hS9, hK9⟩; refine ⟨_, rfl, ?_⟩; have HS9 := Aside0.mk hS9; have BK9 := Aside0.mk (hK9.blk BK8.out HGB.out NB.out); have HLR := Aside0.mk (Nat.le_trans (Nat.le_of_eq (HS8.out.len (HE.out.env GW.out GM.out NW.out) hS9 hK9)) HLL.out); clear hS9 hK9 cb0 cb1 cb2 cb3 cw0; have cw := (blk_cell HS9.out.hw 0).trans rfl))
        go_still (by kernel_rfl)
        go_wp2
        go_ret3
        have HX := HS9.out.drew (HE.out.env GW.out GM.out NW.out)
        exact ⟨_, rfl, R_blk HX.hm GM.out HLR.out, HX.iv, HX.le⟩
    · rw [if_neg dz] at hF
      cases hF
  · rw [if_neg d1] at hF
    simp only [Option.some.injEq, Prod.mk.injEq] at hF
    obtain ⟨rfl, rfl, rfl, rfl⟩ := hF
    have b1 : (x1 == 0) = false := beqF d1
    have b2 : (x1 != 0) = true := bne_iff_ne.mpr d1
    clear d1
    go_enter Try.func7, Try.ntmps7
    go_wp2_with (first | ((with_reducible refine gate_dst (N := 3) rfl ?_); refine box_event ?hg (N := 3) ?hd (cs := #[.int .i64 n0, .string n1, .int .i64 n2, .slice A3 n3.length c3]) (t := 25) ?hr ?_; (case hd => rfl); (case hg => rfl); (case hr => first | (go_simp; done) | (go_simp; rfl)); intro gb hg w1 hbox hb1; have BK := Aside0.mk hbox; have HB1 := Aside0.mk hb1; have HG := Aside0.mk hg; have HT1 := Aside0.mk (Kd.F_below HT.out hb1); clear hg hbox hb1; have cb0 := (blk_cell BK.out 0).trans rfl; have cb1 := (blk_cell BK.out 1).trans rfl; have cb2 := (blk_cell BK.out 2).trans rfl; have cb3 := (blk_cell BK.out 3).trans rfl) | ((with_reducible refine gate_callee (f := 14) rfl ?_); refine goesL_ (some 13) rfl rfl Try.func14 (by kernel_rfl) rfl #[.agg #[.int .i64 n0, .string n1, .int .i64 n2, .slice A3 n3.length c3]] rfl (by (try simp only [zm1, zm2, zm3]); first | done | rfl) ?_; (with_reducible refine (Check_any k ⟨n0, n1, n2, n3⟩ A3 c3 (fun j hj => Nat.lt_of_lt_of_le (HOK.out j hj) HB1.out.size) HT1.out HC.out HK.out).mono ?_); rintro e w2 ⟨rfl, hb⟩; refine ⟨_, rfl, ?_⟩; have BK2 := Aside0.mk (blk_below BK.out hb); have HB2 := Aside0.mk (HB1.out.trans (hb.mono HB1.out.size)); have HT2 := Aside0.mk (Kd.F_below HT1.out hb); clear hb; clear cb0 cb1 cb2 cb3; have cb0 := (blk_cell BK2.out 0).trans rfl; have cb1 := (blk_cell BK2.out 1).trans rfl; have cb2 := (blk_cell BK2.out 2).trans rfl; have cb3 := (blk_cell BK2.out 3).trans rfl))
    go_ret3
    exact ⟨_, rfl, Kd.R_nil _ _ _ _ _, HE.out.stab HI.out HB2.out, HB2.out.size⟩
end Go.Proofs.Ytbpgfjfkogdolaa.TreeTopTreeAsks
