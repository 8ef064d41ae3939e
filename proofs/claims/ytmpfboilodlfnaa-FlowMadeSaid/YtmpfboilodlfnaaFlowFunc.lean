/- slices.IndexFunc and slices.ContainsFunc over whole numbers, with a function that tells a predicate. Under the conditions that stand at each. -/
import Derived.Test.YtmpfboilodlfnaaFlowField
namespace Go.Proofs.Ytmpfboilodlfnaa.FlowFunc
open Go Go.RowKit Go.Proofs.Ytmpfboilodlfnaa.Fnv Go.Proofs.YtmpfboilodlfnaaW.PrintWords Go.Proofs.YtmpfboilodlfnaaW.PrintLast Go.Proofs.YtmpfboilodlfnaaW.PrintMore Go.Proofs.Ytmpfboilodlfnaa.FlowField
set_option linter.unusedVariables false
set_option linter.unusedSimpArgs false
section
variable {P : Program} {ops : Array Oper} {Q : Exit → Act → World → Prop} {rest : List Oper}
/-- A call of a function value that has captured variables. -/
theorem goesC_ {oi : Oper} {a : Act} {w : World} (N : Option Tmp) (hd : oi.dst = N) (hg : oi.guard = none) {f : FuncId} {fn : Func} {t : Tmp} {xs : Array Operand} {ts : Array TypeId} {lb : Array Value} (hf : P.funcs[f]? = some fn) (hname : (fn.name == "runtime.NumGoroutine") = false) (hb : fn.body.isSome = true) (args : Array Value)
    (hop : oi.op = .call { callee := .value (.tmp t), args := xs, argTypes := ts }) (hv : a.eval (.tmp t) = .func (.func f) #[] lb) (hargs : xs.map a.eval = args)
    (h : Calls P f (args ++ lb) w fun e w' => ∃ v, e = .returned v ∧ wpList P ops Q rest (a.put N v) w') : wpList P ops Q (oi :: rest) a w := by
  refine wpList_plain hg fun K hK => ?_
  have he := enters_ hf hname hb (args ++ lb) w
  have hrun : (execOp a.eval oi).run P w = .ok (.enter f (args ++ lb)) w := by
    unfold execOp
    simp [hop, resolve, Deferred.ofValue, invoke, hv, hargs, he]
  unfold Oper.wp
  rw [hrun, Oper.upon_enter]
  refine h.mono fun e w'' hh => ?_
  obtain ⟨v, rfl, hk⟩ := hh
  subst hd
  exact hK _ _ hk
end
/-- A function value that tells a predicate of the members of a list. -/
structure Tells (w : World) (l : List Int) (gf : FuncId) (lb : Array Value) (fn : Func) (p : Int → Bool) : Prop where
  hf : Try.prog.funcs[gf]? = some fn
  hname : (fn.name == "runtime.NumGoroutine") = false
  hb : fn.body.isSome = true
  ask : ∀ (w' : World) (x : Int), Below w.heap.size w w' → x ∈ l → Calls Try.prog gf (#[.int .i64 x] ++ lb) w' fun e w2 => e = .returned (.bool (p x)) ∧ Below w'.heap.size w' w2
set_option maxHeartbeats 4000000 in
set_option maxRecDepth 100000 in
theorem index_any {w : World} {l : List Int} {gf : FuncId} {lb : Array Value} {fn : Func} {p : Int → Bool} (ht : Tells w l gf lb fn p) {A : Option Addr} (c : Nat) (hc : Kd.C (Kd.int .i64) w A l.length l) (hl : l.length ≤ 140737488355328) :
    Calls Try.prog 32 #[.slice A l.length c, .func (.func gf) #[] lb] w fun e w' => ∃ r : Int, e = .returned (.int .i64 r) ∧ (0 ≤ r ↔ l.any p = true) ∧ Below w.heap.size w w' := by
  obtain ⟨n, hn⟩ : ∃ n, l.length = n := ⟨_, rfl⟩
  have HN := Aside0.mk hn
  have HT := Aside0.mk ht
  have HC := Aside0.mk hc
  have HL := Aside0.mk hl
  have HB := Aside0.mk (Below.refl w.heap.size w)
  rw [hn]
  clear hn ht hc hl
  go_enter Try.func32, Try.ntmps32
  go_wp2
  go_loopg [8, 5] n (fun kq v8 v5 wr => ∃ i : Nat, v8 = .int .i64 (i : Int) ∧ Aside0 (i + kq = n) ∧ Aside0 ((l.take i).any p = false) ∧ Aside0 (Below w.heap.size w wr))
  case atStart => exact ⟨0, rfl, ⟨by omega⟩, ⟨rfl⟩, HB⟩
  case round =>
    clear HB
    obtain ⟨i, rfl, HI, HA, HB⟩ := hrel
    cases gk with
    | succ kz =>
      have hil : i < l.length := by have h1 := HI.out; have h2 := HN.out; omega
      obtain ⟨ad, rfl, hcell⟩ := C_at HC.out (by omega)
      have cg := pw_cell_below HB.out (hcell (i : Int) (by omega) (by omega))
      rw [Int.toNat_natCast] at cg
      obtain ⟨x, hx⟩ : ∃ x, rd l (i : Int) = x := ⟨_, rfl⟩
      have hxi : x = l[i] := by rw [← hx]; unfold rd; rw [Int.toNat_natCast, List.getD_eq_getElem?_getD, List.getElem?_eq_getElem hil]; rfl
      have HM := Aside0.mk (show x ∈ l from by rw [hxi]; exact List.getElem_mem hil)
      have HTK := Aside0.mk (show l.take (i + 1) = l.take i ++ [x] from by rw [hxi, List.take_append_getElem])
      rw [hx] at cg
      have q0 : (i < n) = True := eq_true (by have := HI.out; omega)
      have hib : (i : Int) ≤ 140737488355328 := by have h1 := HL.out; omega
      have ti : ((i : Int)).toNat = i := Int.toNat_natCast i
      obtain ⟨b, hb⟩ : ∃ b, p x = b := ⟨_, rfl⟩
      have HPX := Aside0.mk hb
      clear hx hxi hcell hil hb
      cases b with
      | false =>
        go_wp2_with (first | ((with_reducible refine gate_fn (t := 11) rfl ?_); refine goesC_ (some 16) rfl rfl (t := 11) HT.out.hf HT.out.hname HT.out.hb #[.int .i64 x] rfl rfl (by (simp only [List.map_toArray, List.map_cons, List.map_nil]); first | done | rfl) ?_; (refine (HT.out.ask _ x HB.out HM.out).mono ?_); rintro e w16 ⟨rfl, hb⟩; refine ⟨_, rfl, ?_⟩; have HB := Aside0.mk (HB.out.trans (hb.mono HB.out.size)); clear hb; rw [HPX.out]))
        go_roundg kz
        case measure => omega
        case rel => exact ⟨i + 1, rfl, ⟨by have := HI.out; omega⟩, ⟨by rw [HTK.out, List.any_append, HA.out]; simp [HPX.out]⟩, HB⟩
      | true =>
        go_wp2_with (first | ((with_reducible refine gate_fn (t := 11) rfl ?_); refine goesC_ (some 16) rfl rfl (t := 11) HT.out.hf HT.out.hname HT.out.hb #[.int .i64 x] rfl rfl (by (simp only [List.map_toArray, List.map_cons, List.map_nil]); first | done | rfl) ?_; (refine (HT.out.ask _ x HB.out HM.out).mono ?_); rintro e w16 ⟨rfl, hb⟩; refine ⟨_, rfl, ?_⟩; have HB := Aside0.mk (HB.out.trans (hb.mono HB.out.size)); clear hb; rw [HPX.out]))
        refine bodyPost_ret (v := .int .i64 (i : Int)) (by simp [results, Try.results32, go_sem]) rfl ?_
        refine ⟨(i : Int), rfl, ⟨fun _ => List.any_eq_true.2 ⟨x, HM.out, HPX.out⟩, fun _ => by omega⟩, HB.out⟩
    | zero =>
      have q0 : (i < n) = False := eq_false (by have := HI.out; omega)
      go_wp2
      refine bodyPost_ret (v := .int .i64 (-1)) (by simp [results, Try.results32, go_sem]) rfl ?_
      have ha := HA.out
      rw [List.take_of_length_le (by have h1 := HI.out; have h2 := HN.out; omega)] at ha
      refine ⟨-1, rfl, ⟨fun h => by omega, fun h => by rw [ha] at h; cases h⟩, HB.out⟩
set_option maxHeartbeats 4000000 in
set_option maxRecDepth 100000 in
theorem contains_any {w : World} {l : List Int} {gf : FuncId} {lb : Array Value} {fn : Func} {p : Int → Bool} (ht : Tells w l gf lb fn p) {A : Option Addr} (c : Nat) (hc : Kd.C (Kd.int .i64) w A l.length l) (hl : l.length ≤ 140737488355328) :
    Calls Try.prog 20 #[.slice A l.length c, .func (.func gf) #[] lb] w fun e w' => e = .returned (.bool (l.any p)) ∧ Below w.heap.size w w' := by
  have HX := Aside0.mk (index_any ht c hc hl)
  obtain ⟨n, hn⟩ : ∃ n, l.length = n := ⟨_, rfl⟩
  rw [hn] at HX ⊢
  clear hn ht hc hl
  go_enter Try.func20, Try.ntmps20
  go_wp2_with (first | ((with_reducible refine gate_callee (f := 32) rfl ?_); refine goesL_ (some 7) rfl rfl Try.func32 (by kernel_rfl) rfl #[.slice A n c, .func (.func gf) #[] lb] rfl (by (simp only [List.map_toArray, List.map_cons, List.map_nil]); first | done | rfl) ?_; (refine (HX.out).mono ?_); rintro e w1 ⟨r, rfl, hr, hb⟩; refine ⟨_, rfl, ?_⟩; have HR := Aside0.mk hr; have HB := Aside0.mk hb; clear hr hb))
  have e : decide (r ≥ 0) = l.any p := by
    cases h : l.any p with
    | true => exact decide_eq_true (HR.out.2 h)
    | false => exact decide_eq_false fun h2 => by have := HR.out.1 h2; rw [h] at this; cases this
  refine bodyPost_ret (v := .bool (l.any p)) (by rw [← e]; simp [results, Try.results20, go_sem]) rfl ⟨rfl, HB.out⟩
end Go.Proofs.Ytmpfboilodlfnaa.FlowFunc
